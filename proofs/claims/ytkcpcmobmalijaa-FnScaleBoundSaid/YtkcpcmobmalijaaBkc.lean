/- Fewest bars: the program and the reference. -/
import Derived.Test.YtkcpcmobmalijaaBkb
set_option linter.unusedSimpArgs false
set_option linter.unusedVariables false
namespace Go.Pc
open Go Go.Proofs

/-- The least number, chosen. -/
noncomputable def mD (F : Nat → Prop) (s : Nat) : Nat := Classical.epsilon (LeastD F s)
theorem mD_ok {F : Nat → Prop} {n : Nat} (hF : ∀ i, i < n → F (2 ^ i)) {s : Nat} (hs : s < 2 ^ n) : LeastD F s (mD F s) ∧ mD F s ≤ n := by
  obtain ⟨c, h1, h2⟩ := div_all n hF s hs
  have h3 : LeastD F s (mD F s) := Classical.epsilon_spec (leastD_ex ⟨c, h2⟩)
  exact ⟨h3, Nat.le_trans (h3.2 c h2) h1⟩
theorem mD_zero (F : Nat → Prop) : mD F 0 = 0 := by
  have h3 : LeastD F 0 (mD F 0) := Classical.epsilon_spec (p := LeastD F 0) ⟨0, .zero F⟩
  exact h3.uniq (.zero F)

def okBars (l : List Int) (bar : Int) (most : Nat) : Prop := (1 ≤ bar ∧ bar ≤ 200) ∧ l.length ≤ most ∧ ∀ x ∈ l, 1 ≤ x ∧ x ≤ bar
instance (l : List Int) (bar : Int) (most : Nat) : Decidable (okBars l bar most) := inferInstanceAs (Decidable (_ ∧ _))
theorem sumS_one : ∀ (l : List Int) (i : Nat) (x : Int), l[i]? = some x → sumS l (2 ^ i) = x
  | [], _, _, h => by simp at h
  | y :: l, 0, x, h => by
    simp at h
    subst h
    simp [sumS, sumS_zero]
  | y :: l, i + 1, x, h => by
    have h' : l[i]? = some x := by simpa using h
    rw [sumS, Nat.pow_succ, Nat.mul_mod_left, Nat.mul_div_cancel _ (by omega), sumS_one l i x h']
    simp
theorem okBars.sum {l : List Int} {bar : Int} {most : Nat} (h : okBars l bar most) (hm : most ≤ 20) (S : Nat) : 0 ≤ sumS l S ∧ sumS l S ≤ 4000 := by
  refine ⟨sumS_nn l (fun x hx => by have := h.2.2 x hx; omega) S, ?_⟩
  have h1 := sumS_bd l 200 (by omega) (fun x hx => by have := h.2.2 x hx; have := h.1; omega) S
  have h2 := h.2.1
  omega
end Go.Pc
