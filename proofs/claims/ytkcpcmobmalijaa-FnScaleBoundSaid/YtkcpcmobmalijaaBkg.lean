/- Scaled lengths fit; sums over groups; rows of one sheet each. -/
import Derived.Test.YtkcpcmobmalijaaBkf
import Derived.Test.YtkcpcmobmalijaaBkc
set_option linter.unusedSimpArgs false
set_option linter.unusedVariables false
namespace Go.Pc
open Go Go.Proofs

theorem cdiv_le {a d c : Int} (hd : 1 ≤ d) (ha : 0 ≤ a) (h : a ≤ c * d) : cdiv a d ≤ c := by
  unfold cdiv
  rw [Int.tdiv_eq_ediv_of_nonneg (by omega)]
  refine Int.le_of_lt_add_one (Int.ediv_lt_of_lt_mul (by omega) ?_)
  rw [Int.add_mul]
  omega
theorem scl_eq {n bar x : Int} (hn : 0 ≤ n) (hx : 0 ≤ x) : scl n bar x = if (x * (n + 1)) % bar = 0 then n * x else x * (n + 1) / bar * bar := by
  have h : 0 ≤ x * (n + 1) := Int.mul_nonneg hx (by omega)
  unfold scl
  rw [Int.tmod_eq_emod_of_nonneg h, Int.tdiv_eq_ediv_of_nonneg h]
theorem scl_super {n bar x y : Int} (hn : 1 ≤ n) (hb : 1 ≤ bar) (hx : 0 ≤ x) (hy : 0 ≤ y) (hxy : x + y ≤ bar) : scl n bar x + scl n bar y ≤ scl n bar (x + y) := by
  rw [scl_eq (by omega) hx, scl_eq (by omega) hy, scl_eq (by omega) (by omega)]
  have eX : x * (n + 1) = n * x + x := by rw [Int.mul_add, Int.mul_comm x n]; omega
  have eY : y * (n + 1) = n * y + y := by rw [Int.mul_add, Int.mul_comm y n]; omega
  have eXY : (x + y) * (n + 1) = x * (n + 1) + y * (n + 1) := Int.add_mul ..
  have eN : n * (x + y) = n * x + n * y := Int.mul_add ..
  rw [eXY, eN]
  have nx : 0 ≤ n * x := Int.mul_nonneg (by omega) hx
  have ny : 0 ≤ n * y := Int.mul_nonneg (by omega) hy
  generalize n * x = a at *
  generalize n * y = b at *
  generalize x * (n + 1) = X at *
  generalize y * (n + 1) = Y at *
  have q1 := Int.mul_ediv_add_emod X bar
  have q2 := Int.mul_ediv_add_emod Y bar
  have q3 := Int.mul_ediv_add_emod (X + Y) bar
  have r1 := Int.emod_nonneg X (b := bar) (by omega)
  have r2 := Int.emod_nonneg Y (b := bar) (by omega)
  have r3 := Int.emod_nonneg (X + Y) (b := bar) (by omega)
  have t1 := Int.emod_lt_of_pos X (b := bar) (by omega)
  have t2 := Int.emod_lt_of_pos Y (b := bar) (by omega)
  have t3 := Int.emod_lt_of_pos (X + Y) (b := bar) (by omega)
  rw [Int.mul_comm] at q1 q2 q3
  have hge : X / bar * bar + Y / bar * bar ≤ (X + Y) / bar * bar := by
    rw [← Int.add_mul]
    refine Int.mul_le_mul_of_nonneg_right (Int.le_ediv_of_mul_le (by omega) ?_) (by omega)
    rw [Int.add_mul]; omega
  have hgt : X / bar * bar + Y / bar * bar < (X + Y) / bar * bar → X / bar * bar + Y / bar * bar + bar ≤ (X + Y) / bar * bar := fun h => by
    rw [← Int.add_mul] at h ⊢
    have h1 : X / bar + Y / bar < (X + Y) / bar := Int.lt_of_mul_lt_mul_right h (by omega)
    have h2 : (X / bar + Y / bar + 1) * bar ≤ (X + Y) / bar * bar := Int.mul_le_mul_of_nonneg_right (by omega) (by omega)
    rw [Int.add_mul (X / bar + Y / bar) 1] at h2
    omega
  generalize X / bar * bar = P at *
  generalize Y / bar * bar = Q at *
  generalize (X + Y) / bar * bar = R at *
  generalize X % bar = rx at *
  generalize Y % bar = ry at *
  generalize (X + Y) % bar = r at *
  by_cases c1 : rx = 0 <;> by_cases c2 : ry = 0 <;> by_cases c3 : r = 0
  all_goals simp only [c1, c2, c3, if_true, if_false]
  all_goals first
    | omega
    | (by_cases c4 : P + Q < R
       · have := hgt c4; omega
       · omega)
theorem scl_bar {n bar : Int} (hn : 1 ≤ n) (hb : 1 ≤ bar) : scl n bar bar = n * bar := by
  rw [scl_eq (by omega) (by omega), if_pos (Int.mul_emod_right bar (n + 1))]
theorem scl_nn {n bar x : Int} (hn : 1 ≤ n) (hb : 1 ≤ bar) (hx : 0 ≤ x) : 0 ≤ scl n bar x := by
  rw [scl_eq (by omega) hx]
  have h : 0 ≤ x * (n + 1) := Int.mul_nonneg hx (by omega)
  split
  · exact Int.mul_nonneg (by omega) hx
  · exact Int.mul_nonneg (Int.ediv_nonneg h (by omega)) (by omega)
theorem div_sum {F : Nat → Prop} {l : List Int} {B : Int} (hF : ∀ a, F a → sumS l a ≤ B) : ∀ {S c : Nat}, Div F S c → sumS l S ≤ c * B := by
  intro S c h
  induction h with
  | zero => rw [sumS_zero]; simp
  | more s a c ha _ hFa _ ih =>
    rw [sumS_rest l ha]
    have := hF a hFa
    have e : ((c + 1 : Nat) : Int) * B = c * B + B := by rw [Int.natCast_add, Int.add_mul]; simp
    rw [e]
    omega

end Go.Pc
