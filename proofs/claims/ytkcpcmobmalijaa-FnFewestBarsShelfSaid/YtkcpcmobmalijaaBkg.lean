/- Scaled lengths fit; sums over groups; rows of one sheet each. -/
import Derived.Test.YtkcpcmobmalijaaBkf
import Derived.Test.YtkcpcmobmalijaaBkc
set_option linter.unusedSimpArgs false
set_option linter.unusedVariables false
namespace Go.Pc
open Go Go.Proofs

theorem cdiv_le {a d c : Int} (hd : 1 ≤ d) (ha : 0 ≤ a) (h : a ≤ c * d) : cdiv a d ≤ c := by
  unfold cdiv
  rw [Int.tdiv_eq_ediv_of_nonneg (by omega)]
  refine Int.le_of_lt_add_one (Int.ediv_lt_of_lt_mul (by omega) ?_)
  rw [Int.add_mul]
  omega
theorem cdiv_nn {a d : Int} (hd : 1 ≤ d) (ha : 0 ≤ a) : 0 ≤ cdiv a d := by
  unfold cdiv
  rw [Int.tdiv_eq_ediv_of_nonneg (by omega)]
  exact Int.ediv_nonneg (by omega) (by omega)
theorem scl_eq {n bar x : Int} (hn : 0 ≤ n) (hx : 0 ≤ x) : scl n bar x = if (x * (n + 1)) % bar = 0 then n * x else x * (n + 1) / bar * bar := by
  have h : 0 ≤ x * (n + 1) := Int.mul_nonneg hx (by omega)
  unfold scl
  rw [Int.tmod_eq_emod_of_nonneg h, Int.tdiv_eq_ediv_of_nonneg h]
theorem scl_super {n bar x y : Int} (hn : 1 ≤ n) (hb : 1 ≤ bar) (hx : 0 ≤ x) (hy : 0 ≤ y) (hxy : x + y ≤ bar) : scl n bar x + scl n bar y ≤ scl n bar (x + y) := by
  rw [scl_eq (by omega) hx, scl_eq (by omega) hy, scl_eq (by omega) (by omega)]
  have eX : x * (n + 1) = n * x + x := by rw [Int.mul_add, Int.mul_comm x n]; omega
  have eY : y * (n + 1) = n * y + y := by rw [Int.mul_add, Int.mul_comm y n]; omega
  have eXY : (x + y) * (n + 1) = x * (n + 1) + y * (n + 1) := Int.add_mul ..
  have eN : n * (x + y) = n * x + n * y := Int.mul_add ..
  rw [eXY, eN]
  have nx : 0 ≤ n * x := Int.mul_nonneg (by omega) hx
  have ny : 0 ≤ n * y := Int.mul_nonneg (by omega) hy
  generalize n * x = a at *
  generalize n * y = b at *
  generalize x * (n + 1) = X at *
  generalize y * (n + 1) = Y at *
  have q1 := Int.mul_ediv_add_emod X bar
  have q2 := Int.mul_ediv_add_emod Y bar
  have q3 := Int.mul_ediv_add_emod (X + Y) bar
  have r1 := Int.emod_nonneg X (b := bar) (by omega)
  have r2 := Int.emod_nonneg Y (b := bar) (by omega)
  have r3 := Int.emod_nonneg (X + Y) (b := bar) (by omega)
  have t1 := Int.emod_lt_of_pos X (b := bar) (by omega)
  have t2 := Int.emod_lt_of_pos Y (b := bar) (by omega)
  have t3 := Int.emod_lt_of_pos (X + Y) (b := bar) (by omega)
  rw [Int.mul_comm] at q1 q2 q3
  have hge : X / bar * bar + Y / bar * bar ≤ (X + Y) / bar * bar := by
    rw [← Int.add_mul]
    refine Int.mul_le_mul_of_nonneg_right (Int.le_ediv_of_mul_le (by omega) ?_) (by omega)
    rw [Int.add_mul]; omega
  have hgt : X / bar * bar + Y / bar * bar < (X + Y) / bar * bar → X / bar * bar + Y / bar * bar + bar ≤ (X + Y) / bar * bar := fun h => by
    rw [← Int.add_mul] at h ⊢
    have h1 : X / bar + Y / bar < (X + Y) / bar := Int.lt_of_mul_lt_mul_right h (by omega)
    have h2 : (X / bar + Y / bar + 1) * bar ≤ (X + Y) / bar * bar := Int.mul_le_mul_of_nonneg_right (by omega) (by omega)
    rw [Int.add_mul (X / bar + Y / bar) 1] at h2
    omega
  generalize X / bar * bar = P at *
  generalize Y / bar * bar = Q at *
  generalize (X + Y) / bar * bar = R at *
  generalize X % bar = rx at *
  generalize Y % bar = ry at *
  generalize (X + Y) % bar = r at *
  by_cases c1 : rx = 0 <;> by_cases c2 : ry = 0 <;> by_cases c3 : r = 0
  all_goals simp only [c1, c2, c3, if_true, if_false]
  all_goals first
    | omega
    | (by_cases c4 : P + Q < R
       · have := hgt c4; omega
       · omega)
theorem scl_bar {n bar : Int} (hn : 1 ≤ n) (hb : 1 ≤ bar) : scl n bar bar = n * bar := by
  rw [scl_eq (by omega) (by omega), if_pos (Int.mul_emod_right bar (n + 1))]
theorem scl_nn {n bar x : Int} (hn : 1 ≤ n) (hb : 1 ≤ bar) (hx : 0 ≤ x) : 0 ≤ scl n bar x := by
  rw [scl_eq (by omega) hx]
  have h : 0 ≤ x * (n + 1) := Int.mul_nonneg hx (by omega)
  split
  · exact Int.mul_nonneg (by omega) hx
  · exact Int.mul_nonneg (Int.ediv_nonneg h (by omega)) (by omega)
theorem scl_mono {n bar x y : Int} (hn : 1 ≤ n) (hb : 1 ≤ bar) (hx : 0 ≤ x) (hxy : x ≤ y) (hy : y ≤ bar) : scl n bar x ≤ scl n bar y := by
  have h1 := scl_super (n := n) (bar := bar) (x := x) (y := y - x) hn hb hx (by omega) (by omega)
  have h2 := scl_nn (n := n) (bar := bar) (x := y - x) hn hb (by omega)
  rw [show x + (y - x) = y by omega] at h1
  omega
theorem scl_zero {n bar : Int} (hn : 1 ≤ n) (hb : 1 ≤ bar) : scl n bar 0 = 0 := by
  rw [scl_eq (by omega) (by omega)]; simp

/-- Sums of a superadditive function over a set. -/
theorem sumS_super {n bar : Int} (hn : 1 ≤ n) (hb : 1 ≤ bar) : ∀ (l : List Int), (∀ x ∈ l, 0 ≤ x) → ∀ S, sumS l S ≤ bar → sumS (l.map (scl n bar)) S ≤ scl n bar (sumS l S)
  | [], _, _, _ => by simp [sumS, scl_zero hn hb]
  | x :: l, h, S, hS => by
    have hl := fun y hy => h y (List.mem_cons_of_mem _ hy)
    have hx := h x (by simp)
    have hn0 := sumS_nn l hl (S / 2)
    simp only [List.map_cons, sumS] at hS ⊢
    by_cases c : S % 2 = 1
    · rw [if_pos c] at hS ⊢
      rw [if_pos c]
      have h1 := sumS_super hn hb l hl (S / 2) (by omega)
      have h2 := scl_super (n := n) (bar := bar) hn hb hx hn0 hS
      omega
    · rw [if_neg c] at hS ⊢
      rw [if_neg c]
      have h1 := sumS_super hn hb l hl (S / 2) (by omega)
      simp only [Int.zero_add]
      exact h1
theorem div_sum {F : Nat → Prop} {l : List Int} {B : Int} (hF : ∀ a, F a → sumS l a ≤ B) : ∀ {S c : Nat}, Div F S c → sumS l S ≤ c * B := by
  intro S c h
  induction h with
  | zero => rw [sumS_zero]; simp
  | more s a c ha _ hFa _ ih =>
    rw [sumS_rest l ha]
    have := hF a hFa
    have e : ((c + 1 : Nat) : Int) * B = c * B + B := by rw [Int.natCast_add, Int.add_mul]; simp
    rw [e]
    omega

theorem sub_full : ∀ (m : Nat) {a : Nat}, a < 2 ^ m → sub a (2 ^ m - 1)
  | 0, a, h => by
    have : a = 0 := by simpa using h
    subst this
    exact sub_zero _
  | m + 1, a, h => by
    rw [Nat.pow_succ] at h ⊢
    rw [sub_iff]
    have e : (2 ^ m * 2 - 1) / 2 = 2 ^ m - 1 := by omega
    rw [e]
    exact ⟨by omega, sub_full m (by omega)⟩
theorem sumS_pow : ∀ (l : List Int) (j A : Nat) (x : Int), A < 2 ^ j → l[j]? = some x → sumS l (A + 2 ^ j) = sumS l A + x
  | [], _, _, _, _, h => by simp at h
  | y :: l, 0, A, x, hA, h => by
    simp at h
    subst h
    have : A = 0 := by simpa using hA
    subst this
    simp [sumS]
    omega
  | y :: l, j + 1, A, x, hA, h => by
    have h' : l[j]? = some x := by simpa using h
    rw [Nat.pow_succ] at hA ⊢
    simp only [sumS]
    have e1 : (A + 2 ^ j * 2) / 2 = A / 2 + 2 ^ j := by omega
    have e2 : (A + 2 ^ j * 2) % 2 = A % 2 := by omega
    rw [e1, e2, sumS_pow l j (A / 2) x (by omega) h']
    omega

/-- Rows that are begun when a length does not fit. -/
def gStep (bar : Int) (g : Nat × Int) (x : Int) : Nat × Int := if g.2 < x then (g.1 + 1, bar - x) else (g.1, g.2 - x)
def gRun (bar : Int) (l : List Int) : Nat × Int := l.foldl (gStep bar) (0, 0)
theorem gRun_next {bar : Int} {l : List Int} {j : Nat} {x : Int} (h : l[j]? = some x) : gRun bar (l.take (j + 1)) = gStep bar (gRun bar (l.take j)) x := by
  unfold gRun
  rw [List.take_add_one, h, List.foldl_append]; rfl
theorem gRun_div {bar : Int} {l : List Int} (hl : ∀ x ∈ l, 1 ≤ x ∧ x ≤ bar) : ∀ j, j ≤ l.length →
    (j = 0 ∧ gRun bar (l.take j) = (0, 0)) ∨ ∃ A, 0 < A ∧ A < 2 ^ j ∧ 1 ≤ (gRun bar (l.take j)).1 ∧ (gRun bar (l.take j)).2 = bar - sumS l A ∧ 0 ≤ (gRun bar (l.take j)).2 ∧ Div (barsF l bar) (2 ^ j - 1 - A) ((gRun bar (l.take j)).1 - 1)
  | 0, _ => .inl ⟨rfl, rfl⟩
  | j + 1, hj => by
    obtain ⟨x, hx⟩ := get_lt (l := l) (i := j) (by omega)
    have hxb := hl x (List.mem_of_getElem? hx)
    have ih := gRun_div hl j (by omega)
    have hp : 0 < 2 ^ j := Nat.two_pow_pos j
    rw [gRun_next hx]
    right
    rcases ih with ⟨h0, hg⟩ | ⟨A, a1, a2, a3, a4, a5, a6⟩
    · subst h0
      rw [hg]
      unfold gStep
      rw [if_pos (by simp only []; omega)]
      refine ⟨1, by omega, by simp, by simp, ?_, by simp only []; omega, .zero⟩
      have := sumS_one l 0 x hx
      rw [Nat.pow_zero] at this
      rw [this]
    · generalize gRun bar (l.take j) = g at *
      unfold gStep
      by_cases c : g.2 < x
      · rw [if_pos c]
        refine ⟨2 ^ j, hp, by rw [Nat.pow_succ]; omega, by simp, by simp only []; rw [sumS_one l j x hx], by simp only []; omega, ?_⟩
        have e : 2 ^ (j + 1) - 1 - 2 ^ j = 2 ^ j - 1 := by rw [Nat.pow_succ]; omega
        rw [e]
        have e2 : g.1 + 1 - 1 = (g.1 - 1) + 1 := by omega
        simp only [e2]
        exact .more _ A _ (sub_full j a2) a1 (by unfold barsF; omega) a6
      · rw [if_neg c]
        refine ⟨A + 2 ^ j, by omega, by rw [Nat.pow_succ]; omega, a3, by simp only []; rw [sumS_pow l j A x a2 hx]; omega, by simp only []; omega, ?_⟩
        have e : 2 ^ (j + 1) - 1 - (A + 2 ^ j) = 2 ^ j - 1 - A := by rw [Nat.pow_succ]; omega
        rw [e]
        exact a6
theorem gRun_all {bar : Int} {l : List Int} (hl : ∀ x ∈ l, 1 ≤ x ∧ x ≤ bar) : Div (barsF l bar) (2 ^ l.length - 1) (gRun bar l).1 := by
  have h := gRun_div hl l.length (Nat.le_refl _)
  rw [List.take_length] at h
  rcases h with ⟨h0, hg⟩ | ⟨A, a1, a2, a3, a4, a5, a6⟩
  · rw [h0, hg]; exact .zero
  · have e2 : (gRun bar l).1 = ((gRun bar l).1 - 1) + 1 := by omega
    rw [e2]
    exact .more _ A _ (sub_full _ a2) a1 (by unfold barsF; omega) a6

end Go.Pc
