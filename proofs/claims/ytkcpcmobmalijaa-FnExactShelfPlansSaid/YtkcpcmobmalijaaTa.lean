/- What the exact laws do with works and plans: they copy them into memory of their own, write marks there, and look whether the marks are held. -/
import Derived.Test.YtkcpcmobmalijaaLa
set_option linter.unusedSimpArgs false
set_option linter.unusedVariables false
namespace Go.Pc
open Go Go.Proofs

theorem exact_map {α : Type} (f : α → List AV) (h : ∀ a, (f a).all AV.exact = true) (l : List α) : exactR (l.map f) = true := by
  simp [exactR, List.all_eq_true] at *
  exact fun a _ => h a
theorem Pane.exact (q : Pane) : q.cs.all AV.exact = true := rfl
theorem rows_len {α : Type} (f : α → List AV) (k : Nat) (h : ∀ a, (f a).length = k) (l : List α) : ∀ (i : Nat) e, (l.map f)[i]? = some e → e.length = k := fun i e he => by
  rw [List.getElem?_map] at he
  cases hq : l[i]? with
  | none => simp [hq] at he
  | some a => simp [hq] at he; subst he; exact h a

theorem toPaneS_f (l : List Pane) (hl : l.length ≤ 1048576) : ACalls Try.prog 73 [.sl (l.map Pane.cs)] [] [] (fun r L => ∃ S v, v.oneCell' = true ∧ r = .val v ∧ L = [.forest S [(v, .sl (l.map Pane.cs))]]) := (toPaneS_o l hl).treed (by simp) (exact_map _ Pane.exact l)

def Work.csV (k : Work) (v : Value) : List AV := [.val (.int .i64 k.W), .val (.int .i64 k.H), .val v]
theorem e_toWork_ : Enters Try.prog 21 := enters_of Try.func21 (by kernel_rfl) (by kernel_rfl)
theorem toWork_f (k : Work) (hl : k.Ps.length ≤ 1048576) : ACalls Try.prog 21 [.agg k.cs] [] [] (fun r L => ∃ S v, v.oneCell' = true ∧ r = .agg (k.csV v) ∧ L = [.forest S [(v, .sl (k.Ps.map Pane.cs))]]) := by
  refine acalls_tm T_tt Try.func21 rfl e_toWork_ 14 rfl (W8 _ .any .any .any .any .any .any .any [.any, .any, .any, .any, .any, .any, .any]) rfl (rv := [.cell 2 25]) rfl (sx_sound (bl := []) T_tt _ _ _ ?_)
  simp (disch := omega) only [SX0, SX1, SX2, SX3, SX4, SX5, SX6, SX7, SX8, SU0, SY0, SY1, Nat.reduceAdd, Nat.reduceMul, Nat.reduceSub, Nat.reduceLeDiff, Nat.reduceEqDiff, Nat.reduceLT, Nat.reduceBEq, ↓reduceIte, Int.reduceLE, Int.reduceLT, Int.reduceToNat, Int.reduceNeg, reduceCtorEq, Int.reduceEq, SF0, SF1, SF2, DLa0, DCg0, DCe0, DCe1, DCe2, DDb0, DBc0, DBc1]
  refine acall_own (toPaneS_f k.Ps hl) [] [] (by simp only [SX0, SX1, SX2, SX3, SX4, SX5, SX6, SX7, SX8, SU0, SY0, SY1, Nat.reduceAdd, Nat.reduceMul, Nat.reduceSub, Nat.reduceLeDiff, Nat.reduceEqDiff, Nat.reduceLT, Nat.reduceBEq, ↓reduceIte, Int.reduceLE, Int.reduceLT, Int.reduceToNat, Int.reduceNeg, reduceCtorEq, Int.reduceEq, SF0, SF1, SF2, DLa0, DCg0, DCe0, DCe1, DCe2, DDb0, DBc0, DBc1, SX0]) (by decide) (by decide) (by rfl) (by simp only [SX0, SX1, SX2, SX3, SX4, SX5, SX6, SX7, SX8, SU0, SY0, SY1, Nat.reduceAdd, Nat.reduceMul, Nat.reduceSub, Nat.reduceLeDiff, Nat.reduceEqDiff, Nat.reduceLT, Nat.reduceBEq, ↓reduceIte, Int.reduceLE, Int.reduceLT, Int.reduceToNat, Int.reduceNeg, reduceCtorEq, Int.reduceEq, SF0, SF1, SF2, DLa0, DCg0, DCe0, DCe1, DCe2, DDb0, DBc0, DBc1, SX0]) ?_
  rintro _ _ ⟨S, v, hv, rfl, rfl⟩
  simp (disch := omega) only [SX0, SX1, SX2, SX3, SX4, SX5, SX6, SX7, SX8, SU0, SY0, SY1, Nat.reduceAdd, Nat.reduceMul, Nat.reduceSub, Nat.reduceLeDiff, Nat.reduceEqDiff, Nat.reduceLT, Nat.reduceBEq, ↓reduceIte, Int.reduceLE, Int.reduceLT, Int.reduceToNat, Int.reduceNeg, reduceCtorEq, Int.reduceEq, SF0, SF1, SF2, DLa0, DCg0, DCe0, DCe1, DCe2, DDb0, DBc0, DBc1, SX0, hv, if_true]
  exact fin_ks [3] (.agg (k.csV v)) _ ⟨S, v, hv, rfl, rfl⟩ rfl ⟨rfl, trivial⟩ (by simp) (by simp) (by simp)

/-- Rows of which the first ones are marked. -/
def mixR {α : Type} (m l : List α) (i : Nat) : List α := m.take i ++ l.drop i
theorem mixR_len {α : Type} {m l : List α} (h : m.length = l.length) (i : Nat) : (mixR m l i).length = l.length := by simp [mixR]; omega
theorem mixR_zero {α : Type} (m l : List α) : mixR m l 0 = l := by simp [mixR]
theorem mixR_full {α : Type} {m l : List α} (h : m.length = l.length) {i : Nat} (hi : l.length ≤ i) : mixR m l i = m := by simp [mixR, List.take_of_length_le (show m.length ≤ i by omega), List.drop_of_length_le hi]
theorem mixR_get {α : Type} {m l : List α} (h : m.length = l.length) (i : Nat) : (mixR m l i)[i]? = l[i]? := by
  unfold mixR
  by_cases hi : i ≤ l.length
  · rw [List.getElem?_append_right (by simp; omega)]
    simp; congr 1; omega
  · rw [List.getElem?_eq_none (by simp; omega), List.getElem?_eq_none (by omega)]
theorem mixR_set {α : Type} {m l : List α} (h : m.length = l.length) {i : Nat} {x : α} (hx : m[i]? = some x) : (mixR m l i).set i x = mixR m l (i + 1) := by
  have hi := (List.getElem?_eq_some_iff.1 hx).1
  unfold mixR
  have e : l.drop i = l[i] :: l.drop (i + 1) := (List.drop_eq_getElem_cons (by omega))
  have e2 : ∀ y : α, (y :: l.drop (i + 1)).set 0 x = x :: l.drop (i + 1) := fun y => rfl
  rw [e, List.set_append_right _ _ (by simp; omega), List.take_add_one, hx, show i - (m.take i).length = 0 by simp; omega, e2]
  simp

def marks {α : Type} (f : Int → α) (c : Nat) (n : Nat) (k : Int) : List α := (List.range n).map fun (i : Nat) => f (k + c * (i : Int))
theorem marks_len {α : Type} (f : Int → α) (c n : Nat) (k : Int) : (marks f c n k).length = n := by simp [marks]
theorem marks_get {α : Type} (f : Int → α) (c : Nat) {n i : Nat} (k : Int) (h : i < n) : (marks f c n k)[i]? = some (f (k + c * i)) := by simp [marks, h]

end Go.Pc
