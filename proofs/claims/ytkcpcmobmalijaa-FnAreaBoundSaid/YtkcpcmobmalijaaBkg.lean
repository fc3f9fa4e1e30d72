/- Scaled lengths fit; sums over groups; rows of one sheet each. -/
import Derived.Test.YtkcpcmobmalijaaBkf
import Derived.Test.YtkcpcmobmalijaaBkc
set_option linter.unusedSimpArgs false
set_option linter.unusedVariables false
namespace Go.Pc
open Go Go.Proofs

theorem cdiv_le {a d c : Int} (hd : 1 ≤ d) (ha : 0 ≤ a) (h : a ≤ c * d) : cdiv a d ≤ c := by
  unfold cdiv
  rw [Int.tdiv_eq_ediv_of_nonneg (by omega)]
  refine Int.le_of_lt_add_one (Int.ediv_lt_of_lt_mul (by omega) ?_)
  rw [Int.add_mul]
  omega
theorem cdiv_nn {a d : Int} (hd : 1 ≤ d) (ha : 0 ≤ a) : 0 ≤ cdiv a d := by
  unfold cdiv
  rw [Int.tdiv_eq_ediv_of_nonneg (by omega)]
  exact Int.ediv_nonneg (by omega) (by omega)
theorem cdiv_pos {a d : Int} (hd : 1 ≤ d) (ha : 1 ≤ a) : 1 ≤ cdiv a d := by
  unfold cdiv
  rw [Int.tdiv_eq_ediv_of_nonneg (by omega)]
  exact Int.le_ediv_of_mul_le (by omega) (by omega)

theorem div_sum {F : Nat → Prop} {l : List Int} {B : Int} (hF : ∀ a, F a → sumS l a ≤ B) : ∀ {S c : Nat}, Div F S c → sumS l S ≤ c * B := by
  intro S c h
  induction h with
  | zero => rw [sumS_zero]; simp
  | more s a c ha _ hFa _ ih =>
    rw [sumS_rest l ha]
    have := hF a hFa
    have e : ((c + 1 : Nat) : Int) * B = c * B + B := by rw [Int.natCast_add, Int.add_mul]; simp
    rw [e]
    omega

end Go.Pc
