/- Stable sorting: equal ones in the order in which they stood. -/
import Derived.Test.YtkcpcmobmalijaaJa
import Derived.Test.YtkcpcmobmalijaaAlh
import Derived.Test.YtkcpcmobmalijaaAlv
import Derived.Test.YtkcpcmobmalijaaHa
set_option linter.unusedSimpArgs false
set_option linter.unusedVariables false
namespace Go.Pc
open Go Go.Proofs

theorem drop_consB {α : Type} {l : List α} {i : Nat} {x : α} (h : l[i]? = some x) : l.drop i = x :: l.drop (i + 1) := by
  have hi := (List.getElem?_eq_some_iff.1 h).1
  rw [List.drop_eq_getElem_cons hi, (List.getElem?_eq_some_iff.1 h).2]
def insAt (P : List Int) (x : Int) (rest : List Int) (j : Nat) : List Int := P.take j ++ x :: (P.drop j ++ rest)
theorem insAt_len (P : List Int) (x : Int) (rest : List Int) (j : Nat) : (insAt P x rest j).length = P.length + 1 + rest.length := by
  simp [insAt]; omega
theorem insAt_perm (P : List Int) (x : Int) (rest : List Int) (j : Nat) : (insAt P x rest j).Perm (P ++ x :: rest) := by
  unfold insAt
  refine List.perm_middle.trans ?_
  rw [← List.append_assoc, List.take_append_drop]
  exact List.perm_middle.symm
theorem insAt_get {P : List Int} {x : Int} {rest : List Int} {j : Nat} (h : j ≤ P.length) : (insAt P x rest j)[j]? = some x := by
  unfold insAt
  rw [List.getElem?_append_right (by simp; omega)]
  simp [Nat.min_eq_left h]
theorem insAt_get1 {P : List Int} {x y : Int} {rest : List Int} {j : Nat} (hy : P[j]? = some y) : (insAt P x rest (j + 1))[j]? = some y := by
  have hj := (List.getElem?_eq_some_iff.1 hy).1
  unfold insAt
  rw [List.getElem?_append_left (by simp; omega), List.getElem?_take, if_pos (by omega)]
  exact hy
theorem insAt_swap {P : List Int} {x y : Int} {rest : List Int} {j : Nat} (hy : P[j]? = some y) : ((insAt P x rest (j + 1)).set (j + 1) y).set j x = insAt P x rest j := by
  have hj := (List.getElem?_eq_some_iff.1 hy).1
  have e : P.take (j + 1) = P.take j ++ [y] := by rw [List.take_add_one, hy]; rfl
  have d : P.drop j = y :: P.drop (j + 1) := drop_consB hy
  have l : (P.take j).length = j := by simp; omega
  unfold insAt
  rw [e, d]
  rw [List.set_append_right _ _ (by simp; omega)]
  have : j + 1 - (P.take j ++ [y]).length = 0 := by simp; omega
  rw [this, List.set_cons_zero, List.append_assoc, List.set_append_right _ _ (by omega), l, Nat.sub_self]
  rfl
theorem insAt_top (P : List Int) (x : Int) (rest : List Int) : insAt P x rest P.length = P ++ x :: rest := by simp [insAt]

theorem insAt_take (P : List Int) (x : Int) (rest : List Int) {j : Nat} (h : j ≤ P.length) : (insAt P x rest j).take (P.length + 1) = insAt P x [] j := by
  have e : insAt P x rest j = insAt P x [] j ++ rest := by simp [insAt]
  rw [e, List.take_append_of_le_length (by rw [insAt_len]; simp), List.take_of_length_le (by rw [insAt_len]; simp)]

/-- What sorted means. -/
def srt (g : Int → Int → Int) (S : List Int) : Prop := S.Pairwise fun x y => ¬ g y x < 0
/-- What a comparing function must be. -/
structure CmpOk (g : Int → Int → Int) (D : Int → Prop) : Prop where
  asym : ∀ x y, D x → D y → g x y < 0 → ¬ g y x < 0
  trans : ∀ x y z, D x → D y → D z → ¬ g y x < 0 → ¬ g z y < 0 → ¬ g z x < 0
theorem srt_ins {g : Int → Int → Int} {D : Int → Prop} (hg : CmpOk g D) {P : List Int} {x : Int} {j : Nat} (hj : j ≤ P.length) (hD : ∀ y ∈ P, D y) (hx : D x) (hP : srt g P) (h1 : ∀ y ∈ P.drop j, g x y < 0) (h2 : ∀ y, j ≠ 0 → P[j - 1]? = some y → ¬ g x y < 0) : srt g (insAt P x [] j) := by
  unfold insAt srt at *
  rw [List.append_nil]
  have hP' := hP
  rw [← List.take_append_drop j P, List.pairwise_append] at hP'
  obtain ⟨p1, p2, p3⟩ := hP'
  rw [List.pairwise_append, List.pairwise_cons]
  refine ⟨p1, ⟨fun y hy => hg.asym x y hx (hD y (List.mem_of_mem_drop hy)) (h1 y hy), p2⟩, fun a ha b hb => ?_⟩
  have haD := hD a (List.mem_of_mem_take ha)
  rcases List.mem_cons.1 hb with rfl | hb
  · obtain ⟨i, hi, rfl⟩ := List.mem_iff_getElem.1 ha
    have hij : i < j := by simp at hi; omega
    have hil : i < P.length := by simp at hi; omega
    rw [List.getElem_take]
    rw [List.getElem_take] at haD
    have hlast : j - 1 < P.length := by omega
    have hl := h2 _ (by omega) (List.getElem?_eq_getElem hlast)
    by_cases e : i = j - 1
    · subst e; exact hl
    · have := List.pairwise_iff_getElem.1 hP i (j - 1) hil hlast (by omega)
      exact hg.trans _ _ _ haD (hD _ (List.getElem_mem _)) hx this hl
  · exact p3 a ha b hb

def upTo (n : Nat) : List Int := (List.range n).map fun i : Nat => (i : Int)
theorem upTo_len (n : Nat) : (upTo n).length = n := by simp [upTo]

def fillN (n i : Nat) : List Int := (List.range n).map fun j : Nat => if j < i then (j : Int) else 0
theorem fillN_zero (n : Nat) : ints (fillN n 0) = List.replicate n [.val (.int .i64 0)] := by
  apply List.ext_getElem <;> simp [fillN, ints]
theorem fillN_all (n : Nat) : fillN n n = upTo n := by
  unfold fillN upTo
  refine List.map_congr_left fun j hj => ?_
  rw [if_pos (List.mem_range.1 hj)]
theorem fillN_len (n i : Nat) : (fillN n i).length = n := by simp [fillN]
theorem fillN_get {n i : Nat} (h : i < n) : (fillN n i)[i]? = some 0 := by simp [fillN, h]
theorem fillN_set {n i : Nat} (h : i < n) : (fillN n i).set i (i : Int) = fillN n (i + 1) := by
  apply List.ext_getElem
  · simp [fillN]
  · intro j h1 h2
    rw [List.getElem_set]
    by_cases e : i = j
    · subst e; simp [fillN]
    · rw [if_neg e]
      simp only [fillN, List.getElem_map, List.getElem_range]
      by_cases c : j < i
      · rw [if_pos c, if_pos (by omega)]
      · rw [if_neg c, if_neg (by omega)]

theorem upTo_asc (n : Nat) : (upTo n).Pairwise fun y x => y < x := by
  unfold upTo
  rw [List.pairwise_map]
  exact List.pairwise_lt_range.imp fun h => by omega


end Go.Pc
