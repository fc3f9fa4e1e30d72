/- Orders of the cuts of a plan: which can be made, and what waits. -/
import Derived.Test.YtkcpcmobmalijaaCg
set_option linter.unusedSimpArgs false
set_option linter.unusedVariables false
namespace Go.Pc
open Go Go.Proofs

/-- The cut with this number can be made when those were made. -/
def canCut (ks : List (Int × Int)) (D : List Int) (n : Int) : Prop := ∃ q ∈ ks, q.1 = n ∧ n ∉ D ∧ (0 ≤ q.2 → q.2 ∈ D)
instance (ks : List (Int × Int)) (D : List Int) (n : Int) : Decidable (canCut ks D n) := inferInstanceAs (Decidable (∃ q ∈ ks, _))
/-- Each has what is above it before it, or among those. -/
def Anc : List Int → List (Int × Int) → Prop
  | _, [] => True
  | K, q :: l => q.2 ∈ K ∧ Anc (q.1 :: K) l
theorem Anc.mono : ∀ {l : List (Int × Int)} {K K' : List Int}, Anc K l → (∀ x ∈ K, x ∈ K') → Anc K' l
  | [], _, _, _, _ => trivial
  | q :: l, K, K', h, hs => ⟨hs _ h.1, Anc.mono h.2 fun x hx => by
      rcases List.mem_cons.1 hx with rfl | hx
      · simp
      · simp [hs x hx]⟩
/-- While one is left, one can be made. -/
theorem Anc.free {D : List Int} : ∀ {l : List (Int × Int)} {K : List Int}, Anc K l → (∀ x ∈ K, x < 0 ∨ x ∈ D) → (∃ q ∈ l, q.1 ∉ D) → ∃ (i : Nat) (q : Int × Int), l[i]? = some q ∧ q.1 ∉ D ∧ (q.2 < 0 ∨ q.2 ∈ D)
  | [], _, _, _, ⟨q, hq, _⟩ => by cases hq
  | q :: l, K, h, hK, hl => by
    by_cases hq : q.1 ∈ D
    · obtain ⟨i, r, h1, h2⟩ := Anc.free (D := D) h.2 (fun x hx => by
        rcases List.mem_cons.1 hx with rfl | hx
        · exact .inr hq
        · exact hK x hx) (by
        obtain ⟨r, hr, hn⟩ := hl
        rcases List.mem_cons.1 hr with rfl | hr
        · exact absurd hq hn
        · exact ⟨r, hr, hn⟩)
      exact ⟨i + 1, r, by simpa using h1, h2⟩
    · exact ⟨0, q, rfl, hq, hK _ h.1⟩

end Go.Pc
