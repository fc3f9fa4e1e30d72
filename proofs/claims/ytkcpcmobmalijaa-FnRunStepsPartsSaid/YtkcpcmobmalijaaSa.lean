/- Orders of the cuts of a plan: which can be made, and what waits. -/
import Derived.Test.YtkcpcmobmalijaaCg
set_option linter.unusedSimpArgs false
set_option linter.unusedVariables false
namespace Go.Pc
open Go Go.Proofs

/-- The cut with this number can be made when those were made. -/
def canCut (ks : List (Int × Int)) (D : List Int) (n : Int) : Prop := ∃ q ∈ ks, q.1 = n ∧ n ∉ D ∧ (0 ≤ q.2 → q.2 ∈ D)
instance (ks : List (Int × Int)) (D : List Int) (n : Int) : Decidable (canCut ks D n) := inferInstanceAs (Decidable (∃ q ∈ ks, _))
/-- A beginning of an order. -/
def begins (ks : List (Int × Int)) (S : List Int) : Prop := ∀ (i : Nat) (h : i < S.length), canCut ks (S.take i) S[i]
instance (ks : List (Int × Int)) (S : List Int) : Decidable (begins ks S) := Nat.decidableBallLT _ _
theorem begins_iff {ks : List (Int × Int)} {S : List Int} : begins ks S ↔ ∀ (i : Nat) n, S[i]? = some n → canCut ks (S.take i) n :=
  ⟨fun h i n hn => by
    obtain ⟨hi, rfl⟩ := List.getElem?_eq_some_iff.1 hn
    exact h i hi, fun h i hi => h i _ (List.getElem?_eq_getElem hi)⟩

/-- Each has what is above it before it, or among those. -/
def Anc : List Int → List (Int × Int) → Prop
  | _, [] => True
  | K, q :: l => q.2 ∈ K ∧ Anc (q.1 :: K) l
theorem Anc.mono : ∀ {l : List (Int × Int)} {K K' : List Int}, Anc K l → (∀ x ∈ K, x ∈ K') → Anc K' l
  | [], _, _, _, _ => trivial
  | q :: l, K, K', h, hs => ⟨hs _ h.1, Anc.mono h.2 fun x hx => by
      rcases List.mem_cons.1 hx with rfl | hx
      · simp
      · simp [hs x hx]⟩
theorem Anc.app : ∀ {l m : List (Int × Int)} {K : List Int}, Anc K l → Anc (l.map Prod.fst ++ K) m → Anc K (l ++ m)
  | [], _, _, _, h => h
  | q :: l, m, K, h, h2 => ⟨h.1, Anc.app h.2 (h2.mono fun x hx => by
      simp only [List.map_cons, List.cons_append, List.mem_cons, List.mem_append] at hx ⊢
      rcases hx with h | h | h
      · exact .inr (.inl h)
      · exact .inl h
      · exact .inr (.inr h))⟩

theorem Plan.knots_anc : ∀ (p : Plan), p.wf = true → ∀ n a, Anc [a] (p.knots n a) :=
  Plan.wf_ind (fun p hw hc n a => by rw [Plan.knots_leaf hc]; trivial) (fun p x y hw hc hk hx hy ix iy n a => by
    rw [Plan.knots_cut hc hk]
    refine ⟨by simp, ?_⟩
    exact Anc.app ((ix (n + 1) n).mono fun x hx => by simp at hx; simp [hx]) ((iy (n + 1 + x.nodes) n).mono fun x hx => by simp at hx; simp [hx]))

/-- While one is left, one can be made. -/
theorem Anc.free {D : List Int} : ∀ {l : List (Int × Int)} {K : List Int}, Anc K l → (∀ x ∈ K, x < 0 ∨ x ∈ D) → (∃ q ∈ l, q.1 ∉ D) → ∃ (i : Nat) (q : Int × Int), l[i]? = some q ∧ q.1 ∉ D ∧ (q.2 < 0 ∨ q.2 ∈ D)
  | [], _, _, _, ⟨q, hq, _⟩ => by cases hq
  | q :: l, K, h, hK, hl => by
    by_cases hq : q.1 ∈ D
    · obtain ⟨i, r, h1, h2⟩ := Anc.free (D := D) h.2 (fun x hx => by
        rcases List.mem_cons.1 hx with rfl | hx
        · exact .inr hq
        · exact hK x hx) (by
        obtain ⟨r, hr, hn⟩ := hl
        rcases List.mem_cons.1 hr with rfl | hr
        · exact absurd hq hn
        · exact ⟨r, hr, hn⟩)
      exact ⟨i + 1, r, by simpa using h1, h2⟩
    · exact ⟨0, q, rfl, hq, hK _ h.1⟩

theorem Plan.knots_nodup : ∀ (p : Plan), p.wf = true → ∀ n a, ((p.knots n a).map Prod.fst).Nodup :=
  Plan.wf_ind (fun p hw hc n a => by rw [Plan.knots_leaf hc]; simp) (fun p x y hw hc hk hx hy ix iy n a => by
    rw [Plan.knots_cut hc hk]
    have h1 : ∀ z ∈ (x.knots (n + 1) n).map Prod.fst, n + 1 ≤ z ∧ z < n + 1 + x.nodes := fun z hz => by
      obtain ⟨q, hq, rfl⟩ := List.mem_map.1 hz
      have := Plan.knots_rng x hx _ _ q hq
      omega
    have h2 : ∀ z ∈ (y.knots (n + 1 + x.nodes) n).map Prod.fst, n + 1 + x.nodes ≤ z := fun z hz => by
      obtain ⟨q, hq, rfl⟩ := List.mem_map.1 hz
      have := Plan.knots_rng y hy _ _ q hq
      omega
    rw [List.map_cons, List.map_append, List.nodup_cons, List.nodup_append]
    refine ⟨fun hm => ?_, ix _ _, iy _ _, fun u hu v hv e => ?_⟩
    · rcases List.mem_append.1 hm with hm | hm
      · have := h1 _ hm; simp only at this; omega
      · have := h2 _ hm; simp only at this; omega
    · subst e
      have := h1 _ hu
      have := h2 _ hv
      omega)

theorem fst_inj {ks : List (Int × Int)} (h : (ks.map Prod.fst).Nodup) {q r : Int × Int} (hq : q ∈ ks) (hr : r ∈ ks) (e : q.1 = r.1) : q = r := by
  induction ks with
  | nil => cases hq
  | cons k ks ih =>
    rw [List.map_cons, List.nodup_cons] at h
    rcases List.mem_cons.1 hq with h1 | h1 <;> rcases List.mem_cons.1 hr with h2 | h2
    · rw [h1, h2]
    · exact absurd (by rw [← h1, e]; exact List.mem_map_of_mem h2) h.1
    · exact absurd (by rw [← h2, ← e]; exact List.mem_map_of_mem h1) h.1
    · exact ih h.2 h1 h2

theorem nodup_sub {α : Type} [DecidableEq α] : ∀ {l m : List α}, l.Nodup → (∀ x ∈ l, x ∈ m) → l.length ≤ m.length
  | [], _, _, _ => by simp
  | x :: l, m, h, hs => by
    rw [List.nodup_cons] at h
    have hx := hs x (by simp)
    have := nodup_sub (l := l) (m := m.erase x) h.2 fun y hy => (List.mem_erase_of_ne (fun e => h.1 (by rw [← e]; exact hy))).2 (hs y (by simp [hy]))
    rw [List.length_erase_of_mem hx] at this
    have := List.length_pos_of_mem hx
    simp only [List.length_cons]
    omega

/-- All facts of a plan's cuts. -/
theorem Plan.knots_facts {p : Plan} (hw : p.wf = true) : ((p.knots 0 (-1)).map Prod.fst).Nodup ∧ (∀ q ∈ p.knots 0 (-1), q.2 < q.1 ∧ 0 ≤ q.1 ∧ q.1 < p.nodes ∧ -1 ≤ q.2) :=
  ⟨Plan.knots_nodup p hw 0 (-1), fun q hq => by
    have := Plan.knots_rng p hw 0 (-1) q hq
    omega⟩

theorem step_in {S : List Int} {i : Nat} {M : Nat → Int → Prop} (h : ∀ (j : Nat) n, j < i → S[j]? = some n → M j n) {n : Int} (hn : S[i]? = some n) (hm : M i n) : ∀ (j : Nat) m, j < i + 1 → S[j]? = some m → M j m := fun j m hj hm' => by
  rcases Nat.lt_succ_iff_lt_or_eq.1 hj with h1 | h1
  · exact h j m h1 hm'
  · subst h1
    rw [hn] at hm'
    cases hm'
    exact hm

end Go.Pc
