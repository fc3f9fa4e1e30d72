/- Texts of orders: the reference. -/
import Derived.Test.YtajkeegikligcaaDoorCqa
set_option linter.unusedSimpArgs false
set_option linter.unusedVariables false
namespace Go.Pc
open Go Go.Proofs Go.Lib

def wordT (b : Bool) : List UInt8 := if b then [116, 117, 114, 110, 115] else [102, 105, 120, 101, 100]
/-- The text of a line, without its end. -/
def Ln.txt (x : Ln) : List UInt8 := decDigits x.N.toNat ++ [32] ++ decDigits x.P.W.toNat ++ [32] ++ decDigits x.P.H.toNat ++ [32] ++ wordT x.P.Tu ++ [32] ++ decDigits x.P.Ki.toNat
def linesT : List Ln → List UInt8
  | [] => []
  | x :: l => x.txt ++ [10] ++ linesT l
theorem linesT_app (l m : List Ln) : linesT (l ++ m) = linesT l ++ linesT m := by
  induction l with
  | nil => rfl
  | cons x l ih => simp [linesT, ih]
theorem linesT_next {l : List Ln} {i : Nat} {x : Ln} (h : l[i]? = some x) : linesT (l.take (i + 1)) = linesT (l.take i) ++ x.txt ++ [10] := by
  rw [List.take_add_one, h, linesT_app]; simp [linesT]
theorem wordT_len (b : Bool) : (wordT b).length = 5 := by cases b <;> rfl
theorem Ln.txt_len {x : Ln} (h : x.P.ok) (hn : x.N ≤ 24) : x.txt.length ≤ 1000 := by
  obtain ⟨h1, h2, h3⟩ := h
  have l1 := dec_len x.N.toNat
  have l2 := dec_len x.P.W.toNat
  have l3 := dec_len x.P.H.toNat
  have l4 := dec_len x.P.Ki.toNat
  unfold Ln.txt
  simp only [List.length_append, List.length_cons, List.length_nil, wordT_len]
  omega
theorem linesT_len {l : List Ln} (h : ∀ x ∈ l, x.txt.length ≤ 1000) : (linesT l).length ≤ 1001 * l.length := by
  induction l with
  | nil => simp [linesT]
  | cons x l ih =>
    have := ih fun y hy => h y (List.mem_cons_of_mem _ hy)
    have := h x List.mem_cons_self
    simp [linesT]; omega
theorem ordOk_N {l : List Ln} (h : ordOk l) : ∀ x ∈ l, x.P.ok ∧ 1 ≤ x.N ∧ x.N ≤ 24 := fun x hx => by
  refine ⟨(h.1 x hx).1, (h.1 x hx).2, ?_⟩
  obtain ⟨i, hi, rfl⟩ := List.getElem_of_mem hx
  have h1 := sumN_next (List.getElem?_eq_getElem hi)
  have h2 := sumN_take_le (fun y hy => (h.1 y hy).2) (i + 1)
  have h3 := h.2.2.2
  have h4 : 0 ≤ sumN (l.take i) := by
    have := sumN_take_le (l := l.take i) (fun y hy => (h.1 y (List.mem_of_mem_take hy)).2) 0
    simpa [sumN] using this
  omega

theorem e_showLine : Enters Tryd.prog 48 := enters_of Tryd.func48 (by kernel_rfl) (by kernel_rfl)
set_option maxRecDepth 8000 in
set_option maxHeartbeats 4000000 in
theorem showLine_c (x : Ln) (h : x.P.ok ∧ 1 ≤ x.N ∧ x.N ≤ 24) : ACalls Tryd.prog 48 [.agg x.cs] [] [] (fun r L => r = .val (.string (strB x.txt)) ∧ L = []) := by
  obtain ⟨⟨h1, h2, h3⟩, h4, h5⟩ := h
  have hN1 := numberS_c x.N.toNat (by omega)
  have hN2 := numberS_c x.P.W.toNat (by omega)
  have hN3 := numberS_c x.P.H.toNat (by omega)
  have hN4 := numberS_c x.P.Ki.toNat (by omega)
  rw [show ((x.N.toNat : Nat) : Int) = x.N by omega] at hN1
  rw [show ((x.P.W.toNat : Nat) : Int) = x.P.W by omega] at hN2
  rw [show ((x.P.H.toNat : Nat) : Int) = x.P.H by omega] at hN3
  rw [show ((x.P.Ki.toNat : Nat) : Int) = x.P.Ki by omega] at hN4
  have l1 := dec_len x.N.toNat
  have l2 := dec_len x.P.W.toNat
  have l3 := dec_len x.P.H.toNat
  have l4 := dec_len x.P.Ki.toNat
  have c32 : (⟨#[32]⟩ : ByteArray) = strB [32] := rfl
  have ct : (⟨#[116, 117, 114, 110, 115]⟩ : ByteArray) = strB (wordT true) := rfl
  have cf : (⟨#[102, 105, 120, 101, 100]⟩ : ByteArray) = strB (wordT false) := rfl
  have lt := wordT_len true
  have lf := wordT_len false
  have sz : ∀ l : List UInt8, l.length ≤ 1000000 → ∀ m : List UInt8, m.length ≤ 1000000 → (strB l).size + (strB m).size ≤ 9223372036854775807 := fun l hl m hm => by rw [strB_size, strB_size]; omega
  unfold Ln.txt
  cases htu : x.P.Tu
  all_goals
    refine acalls_tm T_tt Tryd.func48 rfl e_showLine 30 rfl (W8 _ .any .any .any .any .any .any .any (W8 .any .any .any .any .any .any .any .any (W8 .any .any .any .any .any .any .any .any [.any, .any, .any, .any, .any, .any, .any]))) rfl (rv := [.tmp 2]) rfl (sx_sound (bl := []) T_tt _ _ _ ?_)
    simp (disch := omega) only [SX0, SX1, SX2, SX3, SX4, SX5, SX6, SX7, SX8, SU0, SY0, SY1, Nat.reduceAdd, Nat.reduceMul, Nat.reduceSub, Nat.reduceLeDiff, Nat.reduceEqDiff, Nat.reduceLT, Nat.reduceBEq, ↓reduceIte, Int.reduceLE, Int.reduceLT, Int.reduceToNat, Int.reduceNeg, reduceCtorEq, Int.reduceEq, SF0, SF1, SF2, DCqa0, DCqa1, DCqa2, DCe0, DCe1, DCe2, DDb0, DBc0, DBc1, DLa0, DCg0, htu, c32, ct, cf]
    refine awp_drawA T_tt mixed (by decide +kernel) (by kernel_rfl) (by kernel_rfl) ?_
    repeat' first | simp (disch := omega) only [SX0, SX1, SX2, SX3, SX4, SX5, SX6, SX7, SX8, SU0, SY0, SY1, Nat.reduceAdd, Nat.reduceMul, Nat.reduceSub, Nat.reduceLeDiff, Nat.reduceEqDiff, Nat.reduceLT, Nat.reduceBEq, ↓reduceIte, Int.reduceLE, Int.reduceLT, Int.reduceToNat, Int.reduceNeg, reduceCtorEq, Int.reduceEq, SF0, SF1, SF2, DCqa0, DCqa1, DCqa2, DCe0, DCe1, DCe2, DDb0, DBc0, DBc1, DLa0, DCg0, htu, c32, ct, cf, strB_app] | refine req (sz _ (by first | omega | (simp only [List.length_append, List.length_cons, List.length_nil]; omega)) _ (by first | omega | (simp only [List.length_append, List.length_cons, List.length_nil]; omega))) ?_ | refine req (by omega) ?_ | refine qc_one hN1 (by rfl) ?_ | refine qc_one hN2 (by rfl) ?_ | refine qc_one hN3 (by rfl) ?_ | refine qc_one hN4 (by rfl) ?_ | fail
    exact fin_val ⟨rfl, rfl⟩

theorem e_showOrder : Enters Tryd.prog 31 := enters_of Tryd.func31 (by kernel_rfl) (by kernel_rfl)
set_option maxHeartbeats 2000000 in
theorem showOrder_c (l : List Ln) (hl : l.length ≤ 8) (h : ∀ x ∈ l, x.P.ok ∧ 1 ≤ x.N ∧ x.N ≤ 24) : ACalls Tryd.prog 31 [.sl (l.map Ln.cs)] [] [] (fun r L => r = .val (.string (strB (linesT l))) ∧ L = []) := by
  have c10 : (⟨#[10]⟩ : ByteArray) = strB [10] := rfl
  have c0 : (⟨#[]⟩ : ByteArray) = strB [] := rfl
  have sz : ∀ l : List UInt8, l.length ≤ 1000000 → ∀ m : List UInt8, m.length ≤ 1000000 → (strB l).size + (strB m).size ≤ 9223372036854775807 := fun l hl m hm => by rw [strB_size, strB_size]; omega
  have htl : ∀ x ∈ l, x.txt.length ≤ 1000 := fun x hx => Ln.txt_len (h x hx).1 (h x hx).2.2
  refine acalls_tm T_tt Tryd.func31 rfl e_showOrder 19 rfl (W8 _ .any .any .any .any .any .any .any (W8 .any .any .any .any .any .any .any .any [.any, .any, .any, .any])) rfl (rv := [.tmp 2]) rfl (sx_sound (bl := []) T_tt _ _ _ ?_)
  simp (disch := omega) only [SX0, SX1, SX2, SX3, SX4, SX5, SX6, SX7, SX8, SU0, SY0, SY1, Nat.reduceAdd, Nat.reduceMul, Nat.reduceSub, Nat.reduceLeDiff, Nat.reduceEqDiff, Nat.reduceLT, Nat.reduceBEq, ↓reduceIte, Int.reduceLE, Int.reduceLT, Int.reduceToNat, Int.reduceNeg, reduceCtorEq, Int.reduceEq, SF0, SF1, SF2, DCqa0, DCqa1, DCqa2, DCe0, DCe1, DCe2, DDb0, DBc0, DBc1, DLa0, DCg0, c0]
  with_reducible refine awp_loop_h 3 17 (fun (i : Nat) => [(3, .val (.string (strB (linesT (l.take i))))), (4, .val (.int .i64 i))]) (fun i => []) (fun i => i ≤ l.length) (fun i => l.length - i) 0 (Nat.zero_le _) ?_ (fun i hi => sx_sound (bl := []) T_tt _ _ _ ?_)
  · simp (disch := omega) only [SX0, SX1, SX2, SX3, SX4, SX5, SX6, SX7, SX8, SU0, SY0, SY1, Nat.reduceAdd, Nat.reduceMul, Nat.reduceSub, Nat.reduceLeDiff, Nat.reduceEqDiff, Nat.reduceLT, Nat.reduceBEq, ↓reduceIte, Int.reduceLE, Int.reduceLT, Int.reduceToNat, Int.reduceNeg, reduceCtorEq, Int.reduceEq, SF0, SF1, SF2, DCqa0, DCqa1, DCqa2, DCe0, DCe1, DCe2, DDb0, DBc0, DBc1, DLa0, DCg0]
    (refine wk_le ?_ ?_ ?_; (focus (simp [W8, leTm, leAV, AV.under, underL, linesT]; done)); (focus (simp [leL, OB.under, underL, AV.under, linesT]; done)); (focus (simp; done)))
  simp (disch := omega) only [SX0, SX1, SX2, SX3, SX4, SX5, SX6, SX7, SX8, SU0, SY0, SY1, Nat.reduceAdd, Nat.reduceMul, Nat.reduceSub, Nat.reduceLeDiff, Nat.reduceEqDiff, Nat.reduceLT, Nat.reduceBEq, ↓reduceIte, Int.reduceLE, Int.reduceLT, Int.reduceToNat, Int.reduceNeg, reduceCtorEq, Int.reduceEq, SF0, SF1, SF2, DCqa0, DCqa1, DCqa2, DCe0, DCe1, DCe2, DDb0, DBc0, DBc1, DLa0, DCg0]
  refine br_dec (fun h1 => ?_) (fun h1 => ?_)
  · obtain ⟨q, hq⟩ := get_lt (l := l) (i := i) (by omega)
    have hqm := List.mem_of_getElem? hq
    have hlen := linesT_len (l := l.take i) fun x hx => htl x (List.mem_of_mem_take hx)
    have hlen2 := htl q hqm
    have hnx := linesT_next hq
    rw [List.length_take] at hlen
    simp (disch := omega) only [SX0, SX1, SX2, SX3, SX4, SX5, SX6, SX7, SX8, SU0, SY0, SY1, Nat.reduceAdd, Nat.reduceMul, Nat.reduceSub, Nat.reduceLeDiff, Nat.reduceEqDiff, Nat.reduceLT, Nat.reduceBEq, ↓reduceIte, Int.reduceLE, Int.reduceLT, Int.reduceToNat, Int.reduceNeg, reduceCtorEq, Int.reduceEq, SF0, SF1, SF2, DCqa0, DCqa1, DCqa2, DCe0, DCe1, DCe2, DDb0, DBc0, DBc1, DLa0, DCg0, hq]
    refine acall_one (showLine_c q (h q hqm)) rfl rfl ?_
    simp (disch := omega) only [SX0, SX1, SX2, SX3, SX4, SX5, SX6, SX7, SX8, SU0, SY0, SY1, Nat.reduceAdd, Nat.reduceMul, Nat.reduceSub, Nat.reduceLeDiff, Nat.reduceEqDiff, Nat.reduceLT, Nat.reduceBEq, ↓reduceIte, Int.reduceLE, Int.reduceLT, Int.reduceToNat, Int.reduceNeg, reduceCtorEq, Int.reduceEq, SF0, SF1, SF2, DCqa0, DCqa1, DCqa2, DCe0, DCe1, DCe2, DDb0, DBc0, DBc1, DLa0, DCg0]
    refine req (sz _ (by omega) _ (by omega)) ?_
    simp (disch := omega) only [SX0, SX1, SX2, SX3, SX4, SX5, SX6, SX7, SX8, SU0, SY0, SY1, Nat.reduceAdd, Nat.reduceMul, Nat.reduceSub, Nat.reduceLeDiff, Nat.reduceEqDiff, Nat.reduceLT, Nat.reduceBEq, ↓reduceIte, Int.reduceLE, Int.reduceLT, Int.reduceToNat, Int.reduceNeg, reduceCtorEq, Int.reduceEq, SF0, SF1, SF2, DCqa0, DCqa1, DCqa2, DCe0, DCe1, DCe2, DDb0, DBc0, DBc1, DLa0, DCg0, strB_app, c10]
    refine req (sz _ (by simp only [List.length_append]; omega) _ (by simp)) ?_
    simp (disch := omega) only [SX0, SX1, SX2, SX3, SX4, SX5, SX6, SX7, SX8, SU0, SY0, SY1, Nat.reduceAdd, Nat.reduceMul, Nat.reduceSub, Nat.reduceLeDiff, Nat.reduceEqDiff, Nat.reduceLT, Nat.reduceBEq, ↓reduceIte, Int.reduceLE, Int.reduceLT, Int.reduceToNat, Int.reduceNeg, reduceCtorEq, Int.reduceEq, SF0, SF1, SF2, DCqa0, DCqa1, DCqa2, DCe0, DCe1, DCe2, DDb0, DBc0, DBc1, DLa0, DCg0, strB_app, c10]
    rw [← hnx]
    refine ⟨i + 1, by omega, by omega, ?_⟩
    (refine wk_le ?_ ?_ ?_; (focus (simp [W8, leTm, leAV, AV.under, underL]; done)); (focus (simp [leL, OB.under, underL, AV.under]; done)); (focus (simp; done)))
  · rw [List.take_of_length_le (by omega)]
    simp (disch := omega) only [SX0, SX1, SX2, SX3, SX4, SX5, SX6, SX7, SX8, SU0, SY0, SY1, Nat.reduceAdd, Nat.reduceMul, Nat.reduceSub, Nat.reduceLeDiff, Nat.reduceEqDiff, Nat.reduceLT, Nat.reduceBEq, ↓reduceIte, Int.reduceLE, Int.reduceLT, Int.reduceToNat, Int.reduceNeg, reduceCtorEq, Int.reduceEq, SF0, SF1, SF2, DCqa0, DCqa1, DCqa2, DCe0, DCe1, DCe2, DDb0, DBc0, DBc1, DLa0, DCg0]
    exact fin_val ⟨rfl, rfl⟩

/-- The text of an order, empty if it is not valid. -/
def ordT (l : List Ln) : List UInt8 := if ordOk l then linesT l else []

theorem e_formatOrderS : Enters Tryd.prog 12 := enters_of Tryd.func12 (by kernel_rfl) (by kernel_rfl)
theorem formatOrderS_c (l : List Ln) (hl : l.length ≤ 1048576) : ACalls Tryd.prog 12 [.sl (l.map Ln.cs)] [] [] (fun r L => r = .val (.string (strB (ordT l))) ∧ L = []) := by
  unfold ordT
  refine acalls_tm T_tt Tryd.func12 rfl e_formatOrderS 7 rfl (W8 _ .any .any .any .any .any .any .any []) rfl (rv := [.tmp 2]) rfl (sx_sound (bl := []) T_tt _ _ _ ?_)
  simp (disch := omega) only [SX0, SX1, SX2, SX3, SX4, SX5, SX6, SX7, SX8, SU0, SY0, SY1, Nat.reduceAdd, Nat.reduceMul, Nat.reduceSub, Nat.reduceLeDiff, Nat.reduceEqDiff, Nat.reduceLT, Nat.reduceBEq, ↓reduceIte, Int.reduceLE, Int.reduceLT, Int.reduceToNat, Int.reduceNeg, reduceCtorEq, Int.reduceEq, SF0, SF1, SF2, DCqa0, DCqa1, DCqa2, DCe0, DCe1, DCe2, DDb0, DBc0, DBc1, DLa0, DCg0]
  refine acall_one (validOrderS_c l hl) rfl rfl ?_
  simp (disch := omega) only [SX0, SX1, SX2, SX3, SX4, SX5, SX6, SX7, SX8, SU0, SY0, SY1, Nat.reduceAdd, Nat.reduceMul, Nat.reduceSub, Nat.reduceLeDiff, Nat.reduceEqDiff, Nat.reduceLT, Nat.reduceBEq, ↓reduceIte, Int.reduceLE, Int.reduceLT, Int.reduceToNat, Int.reduceNeg, reduceCtorEq, Int.reduceEq, SF0, SF1, SF2, DCqa0, DCqa1, DCqa2, DCe0, DCe1, DCe2, DDb0, DBc0, DBc1, DLa0, DCg0]
  refine br_ndec (fun h1 => ?_) (fun h1 => ?_)
  · simp (disch := omega) only [SX0, SX1, SX2, SX3, SX4, SX5, SX6, SX7, SX8, SU0, SY0, SY1, Nat.reduceAdd, Nat.reduceMul, Nat.reduceSub, Nat.reduceLeDiff, Nat.reduceEqDiff, Nat.reduceLT, Nat.reduceBEq, ↓reduceIte, Int.reduceLE, Int.reduceLT, Int.reduceToNat, Int.reduceNeg, reduceCtorEq, Int.reduceEq, SF0, SF1, SF2, DCqa0, DCqa1, DCqa2, DCe0, DCe1, DCe2, DDb0, DBc0, DBc1, DLa0, DCg0]
    exact fin_val ⟨by rw [if_neg h1]; rfl, rfl⟩
  · simp (disch := omega) only [SX0, SX1, SX2, SX3, SX4, SX5, SX6, SX7, SX8, SU0, SY0, SY1, Nat.reduceAdd, Nat.reduceMul, Nat.reduceSub, Nat.reduceLeDiff, Nat.reduceEqDiff, Nat.reduceLT, Nat.reduceBEq, ↓reduceIte, Int.reduceLE, Int.reduceLT, Int.reduceToNat, Int.reduceNeg, reduceCtorEq, Int.reduceEq, SF0, SF1, SF2, DCqa0, DCqa1, DCqa2, DCe0, DCe1, DCe2, DDb0, DBc0, DBc1, DLa0, DCg0]
    refine acall_one (showOrder_c l h1.2.2.1 (ordOk_N h1)) rfl rfl ?_
    simp (disch := omega) only [SX0, SX1, SX2, SX3, SX4, SX5, SX6, SX7, SX8, SU0, SY0, SY1, Nat.reduceAdd, Nat.reduceMul, Nat.reduceSub, Nat.reduceLeDiff, Nat.reduceEqDiff, Nat.reduceLT, Nat.reduceBEq, ↓reduceIte, Int.reduceLE, Int.reduceLT, Int.reduceToNat, Int.reduceNeg, reduceCtorEq, Int.reduceEq, SF0, SF1, SF2, DCqa0, DCqa1, DCqa2, DCe0, DCe1, DCe2, DDb0, DBc0, DBc1, DLa0, DCg0]
    exact fin_val ⟨by rw [if_pos h1], rfl⟩
end Go.Pc
