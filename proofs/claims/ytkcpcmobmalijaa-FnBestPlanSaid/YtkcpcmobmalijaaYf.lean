/- The best values, exactly: the table's function. -/
import Derived.Test.YtkcpcmobmalijaaYe
import Derived.Test.YtkcpcmobmalijaaYb
set_option linter.unusedSimpArgs false
set_option linter.unusedVariables false
namespace Go.Pc
open Go Go.Proofs

/-- The greatest of m and g 1 .. g n. -/
def maxTo (g : Nat → Int) (m : Int) : Nat → Int
  | 0 => m
  | n + 1 => max (maxTo g m n) (g (n + 1))
theorem maxTo_congr {g g' : Nat → Int} {m : Int} : ∀ {n : Nat}, (∀ c, 1 ≤ c → c ≤ n → g c = g' c) → maxTo g m n = maxTo g' m n
  | 0, _ => rfl
  | n + 1, h => by rw [maxTo, maxTo, maxTo_congr (n := n) fun c h1 h2 => h c h1 (by omega), h (n + 1) (by omega) (by omega)]
theorem maxTo_bd {g : Nat → Int} {m b : Int} (hm : m ≤ b) : ∀ {n : Nat}, (∀ c, 1 ≤ c → c ≤ n → g c ≤ b) → maxTo g m n ≤ b
  | 0, _ => hm
  | n + 1, h => by rw [maxTo]; have := maxTo_bd hm (n := n) fun c h1 h2 => h c h1 (by omega); have := h (n + 1) (by omega) (by omega); omega
theorem maxTo_ge {g : Nat → Int} {m : Int} : ∀ (n : Nat), m ≤ maxTo g m n
  | 0 => Int.le_refl _
  | n + 1 => by rw [maxTo]; have := maxTo_ge (g := g) (m := m) n; omega

def vtF (k : Work) (vs : List Int) : Nat → Nat → Nat → Int
  | 0, _, _ => 0
  | f + 1, w, h => if w = 0 ∨ h = 0 then 0 else maxTo (fun c => vtF k vs f w c + vtF k vs f w (h - c)) (maxTo (fun c => vtF k vs f c h + vtF k vs f (w - c) h) (leafS k vs w h vs.length).m (w / 2)) (h / 2)
theorem vtF_fuel (k : Work) (vs : List Int) : ∀ (n w h : Nat), w + h ≤ n → ∀ f, w + h < f → vtF k vs f w h = vtF k vs (n + 1) w h := by
  intro n
  induction n with
  | zero =>
    intro w h hwh f hf
    obtain ⟨f, rfl⟩ : ∃ f', f = f' + 1 := ⟨f - 1, by omega⟩
    rw [vtF, vtF, if_pos (by omega), if_pos (by omega)]
  | succ n ih =>
    intro w h hwh f hf
    obtain ⟨f, rfl⟩ : ∃ f', f = f' + 1 := ⟨f - 1, by omega⟩
    rw [vtF, vtF]
    split
    · rfl
    · have e1 : maxTo (fun c => vtF k vs f c h + vtF k vs f (w - c) h) (leafS k vs w h vs.length).m (w / 2) = maxTo (fun c => vtF k vs (n + 1) c h + vtF k vs (n + 1) (w - c) h) (leafS k vs w h vs.length).m (w / 2) := maxTo_congr fun c c1 c2 => by
        rw [ih c h (by omega) f (by omega), ih (w - c) h (by omega) f (by omega)]
      rw [e1]
      exact maxTo_congr fun c c1 c2 => by rw [ih w c (by omega) f (by omega), ih w (h - c) (by omega) f (by omega)]

/-- The greatest value of a plan for glass of some sides. -/
def vt (k : Work) (vs : List Int) (w h : Nat) : Int := vtF k vs (w + h + 1) w h
theorem vt_zero {k : Work} {vs : List Int} {w h : Nat} (hz : w = 0 ∨ h = 0) : vt k vs w h = 0 := by unfold vt; rw [vtF, if_pos hz]
theorem vt_eq {k : Work} {vs : List Int} {w h : Nat} (hw : 1 ≤ w) (hh : 1 ≤ h) : vt k vs w h = maxTo (fun c => vt k vs w c + vt k vs w (h - c)) (maxTo (fun c => vt k vs c h + vt k vs (w - c) h) (leafS k vs w h vs.length).m (w / 2)) (h / 2) := by
  have hf : ∀ a b, a + b < w + h → vtF k vs (w + h) a b = vt k vs a b := fun a b hab => by
    unfold vt
    rw [vtF_fuel k vs (a + b) a b (Nat.le_refl _) (w + h) (by omega)]
  conv => lhs; unfold vt
  rw [vtF, if_neg (by omega)]
  have e1 : maxTo (fun c => vtF k vs (w + h) c h + vtF k vs (w + h) (w - c) h) (leafS k vs w h vs.length).m (w / 2) = maxTo (fun c => vt k vs c h + vt k vs (w - c) h) (leafS k vs w h vs.length).m (w / 2) := maxTo_congr fun c c1 c2 => by
    rw [hf c h (by omega), hf (w - c) h (by omega)]
  rw [e1]
  exact maxTo_congr fun c c1 c2 => by rw [hf w c (by omega), hf w (h - c) (by omega)]

/-- The leaf's value. -/
theorem leafS_m {k : Work} {vs : List Int} {w h : Int} (hv : ∀ v ∈ vs, 1 ≤ v ∧ v ≤ 1000) : ∀ i, i ≤ vs.length → 0 ≤ (leafS k vs w h i).m ∧ (leafS k vs w h i).m ≤ 1000
  | 0, _ => by simp [leafS]
  | i + 1, hi => by
    have ih := leafS_m hv (k := k) (w := w) (h := h) i (by omega)
    obtain ⟨v, hvi⟩ := get_lt (l := vs) (i := i) (by omega)
    have hb := hv v (List.mem_of_getElem? hvi)
    have e : vs.getD i 0 = v := by simp [List.getD_eq_getElem?_getD, hvi]
    have one : ∀ (t : Bool) (s : LfS), 0 ≤ s.m ∧ s.m ≤ 1000 → 0 ≤ (s.one k w h i v t).m ∧ (s.one k w h i v t).m ≤ 1000 := fun t s hs => by
      unfold LfS.one
      split
      · simp only []; omega
      · exact hs
    rw [leafS, e]
    exact one _ _ (one _ _ ih)

theorem vt_bd {k : Work} {vs : List Int} (hv : ∀ v ∈ vs, 1 ≤ v ∧ v ≤ 1000) : ∀ (n w h : Nat), w + h ≤ n → 0 ≤ vt k vs w h ∧ vt k vs w h ≤ 1000 * ((w * h : Nat) : Int) := by
  intro n
  induction n with
  | zero => intro w h hwh; rw [vt_zero (by omega)]; omega
  | succ n ih =>
    intro w h hwh
    by_cases hz : w = 0 ∨ h = 0
    · rw [vt_zero hz]; omega
    · have hl := leafS_m hv (k := k) (w := w) (h := h) vs.length (Nat.le_refl _)
      have h1 : 1 ≤ w * h := Nat.mul_pos (by omega) (by omega)
      rw [vt_eq (by omega) (by omega)]
      refine ⟨Int.le_trans (Int.le_trans hl.1 (maxTo_ge _)) (maxTo_ge _), maxTo_bd (maxTo_bd (by omega) fun c c1 c2 => ?_) fun c c1 c2 => ?_⟩
      · have a1 := (ih c h (by omega)).2
        have a2 := (ih (w - c) h (by omega)).2
        have h3 : c * h + (w - c) * h = w * h := by rw [← Nat.add_mul]; congr 1; omega
        omega
      · have a1 := (ih w c (by omega)).2
        have a2 := (ih w (h - c) (by omega)).2
        have h3 : w * c + w * (h - c) = w * h := by rw [← Nat.mul_add]; congr 1; omega
        omega

end Go.Pc
