/- The law of waiting pieces: it holds of all bytes. -/
import Derived.Test.YtncjnchmmagkkaaSd
import Derived.Test.YtncjnchmmagkkaaSc
import Derived.Test.YtncjnchmmagkkaaRow
set_option linter.unusedSimpArgs false
set_option linter.unusedVariables false
namespace Go.Pc
open Go Go.Proofs

theorem equalInts_self (a : List Int) (ha : a.length < 2 ^ 40) : ACalls Try.prog 22 [.sl (ints a), .sl (ints a)] [] [] (fun r L => r = .val (.bool true) ∧ L = []) := (equalInts_c a a ha ha).mono fun r L ⟨h1, h2⟩ => ⟨by rw [h1, decide_eq_true rfl], h2⟩

/-- What waits changes by one at most, and begins and ends with one. -/
theorem waits_facts {p : Plan} {S : List Int} (hl : (p.waits S).length ≠ 0) : p.vsteps S ∧ (p.waits S).length = S.length ∧ S.length ≤ 255 ∧ (∀ (i : Nat) a, (p.waits S)[i]? = some a → 1 ≤ a ∧ a ≤ 1000) ∧ (∀ (i : Nat) a b, (p.waits S)[i]? = some a → (p.waits S)[i + 1]? = some b → b - a ≤ 1 ∧ a - b ≤ 1) ∧ (p.waits S)[0]? = some 1 ∧ (p.waits S)[S.length - 1]? = some 1 := by
  have hv : p.vsteps S := Classical.byContradiction fun hv => hl (by unfold Plan.waits; rw [if_neg hv]; rfl)
  have e : p.waits S = waitL (p.knots 0 (-1)) S S.length := by unfold Plan.waits; rw [if_pos hv]
  rw [e] at hl ⊢
  rw [waitL_len] at hl
  have hkl := Plan.knots_le p hv.1.1 0 (-1)
  obtain ⟨f1, f2⟩ := Plan.knots_facts hv.1.1
  refine ⟨hv, waitL_len _ _ _, by have := hv.2.1; have := hv.1.2; omega, fun i a ha => ?_, fun i a b ha hb => ?_, ?_, ?_⟩
  · have hi := (List.getElem?_eq_some_iff.1 ha).1
    rw [waitL_len] at hi
    rw [waitL_get hi] at ha
    cases ha
    obtain ⟨n, hn⟩ := get_lt (l := S) (i := i) hi
    have := (wt_next hv hn).2.2.1
    have := wt_le (p.knots 0 (-1)) (S.take i)
    have := hv.1.2
    omega
  · have hi := (List.getElem?_eq_some_iff.1 hb).1
    rw [waitL_len] at hi
    rw [waitL_get (by omega)] at ha
    rw [waitL_get hi] at hb
    cases ha
    cases hb
    obtain ⟨n, hn⟩ := get_lt (l := S) (i := i) (by omega)
    obtain ⟨w1, w2, w3, _⟩ := wt_next hv hn
    omega
  · rw [waitL_get (by omega), List.take_zero, Plan.knots_root hv.1.1 (fun h => hl (by rw [hv.2.1, h]; rfl))]
    rfl
  · rw [waitL_get (by omega)]
    obtain ⟨n, hn⟩ := get_lt (l := S) (i := S.length - 1) (by omega)
    have h1 := (wt_next hv hn).2.2.1
    have h2 := wt_last f1 hv.2.2 hv.2.1
    have : wt (p.knots 0 (-1)) (S.take (S.length - 1)) = 1 := by omega
    rw [this]
    rfl

end Go.Pc
