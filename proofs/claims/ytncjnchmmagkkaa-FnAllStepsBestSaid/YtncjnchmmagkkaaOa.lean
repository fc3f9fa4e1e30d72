/- All orders of the cuts of a plan, and one that lets the least wait (plain). -/
import Derived.Test.YtncjnchmmagkkaaSg
import Derived.Test.YtncjnchmmagkkaaSh
set_option linter.unusedSimpArgs false
set_option linter.unusedVariables false
namespace Go.Pc
open Go Go.Proofs

instance (ks : List (Int × Int)) (D : List Int) (n : Int) : Decidable (canCut ks D n) := inferInstanceAs (Decidable (∃ q ∈ ks, _ ∧ _))

/-- All orders that begin with some steps and take so many more. -/
def ordersL (ks : List (Int × Int)) : Nat → List Int → List (List Int)
  | 0, S => [S]
  | n + 1, S => ks.flatMap fun q => if canCut ks S q.1 then ordersL ks n (S ++ [q.1]) else []

theorem ordersL_mem {ks : List (Int × Int)} : ∀ {n : Nat} {S T : List Int}, T ∈ ordersL ks n S ↔ ∃ l, T = S ++ l ∧ l.length = n ∧ chain ks S l
  | 0, S, T => by
    simp only [ordersL, List.mem_singleton]
    refine ⟨fun h => ⟨[], by simp [h], rfl, trivial⟩, fun ⟨l, h1, h2, _⟩ => ?_⟩
    obtain rfl := List.length_eq_zero_iff.1 h2
    simpa using h1
  | n + 1, S, T => by
    simp only [ordersL, List.mem_flatMap]
    constructor
    · rintro ⟨q, hq, h⟩
      split at h
      · rename_i hc
        obtain ⟨l, h1, h2, h3⟩ := ordersL_mem.1 h
        exact ⟨q.1 :: l, by simp [h1], by simp [h2], hc, h3⟩
      · cases h
    · rintro ⟨l, h1, h2, h3⟩
      cases l with
      | nil => simp at h2
      | cons x l =>
        obtain ⟨hc, h3⟩ := h3
        have hc' := hc
        obtain ⟨q, hq, e, h4, h5⟩ := hc
        subst e
        exact ⟨q, hq, by rw [if_pos hc']; exact ordersL_mem.2 ⟨l, by simp [h1], by simpa using h2, h3⟩⟩

/-- The orders are the valid steps. -/
theorem orders_valid {p : Plan} (hw : p.wf = true ∧ p.nodes ≤ 255) {T : List Int} : T ∈ ordersL (p.knots 0 (-1)) (p.knots 0 (-1)).length [] ↔ p.vsteps T := by
  rw [ordersL_mem]
  unfold Plan.vsteps
  constructor
  · rintro ⟨l, rfl, h2, h3⟩
    exact ⟨hw, by simpa using h2, begins_chain.2 (by simpa using h3)⟩
  · rintro ⟨_, h2, h3⟩
    exact ⟨T, by simp, h2, begins_chain.1 h3⟩

/-- An order that lets the least wait: the root, then the part that needs less, then the other. -/
def Plan.best : Plan → Int → List Int
  | .mk op _ _ _ ks, n => if op = 2 ∨ op = 3 then match ks with | [x, y] => n :: (if x.str ≤ y.str then x.best (n + 1) ++ y.best (n + 1 + x.nodes) else y.best (n + 1 + x.nodes) ++ x.best (n + 1)) | _ => [] else []
theorem Plan.best_cut {p x y : Plan} (hc : p.cut) (hk : p.ks = [x, y]) (n : Int) : p.best n = n :: (if x.str ≤ y.str then x.best (n + 1) ++ y.best (n + 1 + x.nodes) else y.best (n + 1 + x.nodes) ++ x.best (n + 1)) := by
  cases p; simp only [Plan.ks] at hk; subst hk
  rw [Plan.best.eq_def]
  simp only [Plan.cut, Plan.op] at hc
  simp only [if_pos hc]
theorem Plan.best_leaf {p : Plan} (hc : ¬ p.cut) (n : Int) : p.best n = [] := by
  cases p
  rw [Plan.best.eq_def]
  simp only [Plan.cut, Plan.op] at hc
  simp only [if_neg hc]

/-- Its numbers and its length. -/
theorem Plan.best_mem : ∀ (p : Plan), p.wf = true → ∀ n a, (p.best n).length = (p.knots n a).length ∧ ∀ x ∈ p.best n, n ≤ x ∧ x < n + p.nodes :=
  Plan.wf_ind (fun p hw hc n a => by rw [Plan.best_leaf hc, Plan.knots_leaf hc]; simp) (fun p x y hw hc hk hx hy ix iy n a => by
    rw [Plan.best_cut hc hk, Plan.knots_cut hc hk]
    have hn := Plan.nodes_two hk
    obtain ⟨a1, a2⟩ := ix (n + 1) n
    obtain ⟨b1, b2⟩ := iy (n + 1 + x.nodes) n
    have := x.nodes_pos
    have := y.nodes_pos
    refine ⟨by split <;> simp [a1, b1] <;> omega, fun z hz => ?_⟩
    have hz' : z = n ∨ z ∈ x.best (n + 1) ∨ z ∈ y.best (n + 1 + x.nodes) := by
      rcases List.mem_cons.1 hz with h | h
      · exact .inl h
      · split at h <;> (rcases List.mem_append.1 h with h | h <;> simp [h])
    rcases hz' with rfl | h | h
    · omega
    · have := a2 z h; omega
    · have := b2 z h; omega)

/-- It can be cut so. -/
theorem Plan.best_chain (ks : List (Int × Int)) : ∀ (p : Plan), p.wf = true → ∀ (n a : Int) (D : List Int), a < n → (∀ q ∈ p.knots n a, q ∈ ks) → (a < 0 ∨ a ∈ D) → (∀ x ∈ D, ¬ (n ≤ x ∧ x < n + p.nodes)) → chain ks D (p.best n) :=
  Plan.wf_ind (fun p hw hc n a D _ _ _ _ => by rw [Plan.best_leaf hc]; trivial) (fun p x y hw hc hk hx hy ix iy n a D han hks ha hD => by
    rw [Plan.knots_cut hc hk] at hks
    have hn := Plan.nodes_two hk
    have := x.nodes_pos
    have := y.nodes_pos
    have mx := (Plan.best_mem x hx (n + 1) n).2
    have my := (Plan.best_mem y hy (n + 1 + x.nodes) n).2
    rw [Plan.best_cut hc hk]
    refine ⟨⟨(n, a), hks _ (by simp), rfl, fun h => hD _ h ⟨Int.le_refl _, by omega⟩, fun h => by rcases ha with h' | h'; (simp only at h; omega); exact h'⟩, ?_⟩
    have cx : ∀ D' : List Int, n ∈ D' → (∀ z ∈ D', ¬ (n + 1 ≤ z ∧ z < n + 1 + x.nodes)) → chain ks D' (x.best (n + 1)) := fun D' h1 h2 => ix (n + 1) n D' (by omega) (fun q hq => hks q (by simp [hq])) (.inr h1) h2
    have cy : ∀ D' : List Int, n ∈ D' → (∀ z ∈ D', ¬ (n + 1 + x.nodes ≤ z ∧ z < n + 1 + x.nodes + y.nodes)) → chain ks D' (y.best (n + 1 + x.nodes)) := fun D' h1 h2 => iy (n + 1 + x.nodes) n D' (by omega) (fun q hq => hks q (by simp [hq])) (.inr h1) h2
    have hD1 : ∀ z ∈ D ++ [n], ¬ (n + 1 ≤ z ∧ z < n + 1 + x.nodes) ∧ ¬ (n + 1 + x.nodes ≤ z ∧ z < n + 1 + x.nodes + y.nodes) := fun z hz => by
      rcases List.mem_append.1 hz with hz | hz
      · have := hD z hz; omega
      · have := List.mem_singleton.1 hz; omega
    split
    · refine chain_app.2 ⟨cx _ (by simp) fun z hz => (hD1 z hz).1, cy _ (by simp) fun z hz => ?_⟩
      rcases List.mem_append.1 hz with hz | hz
      · exact (hD1 z hz).2
      · have := mx z hz; omega
    · refine chain_app.2 ⟨cy _ (by simp) fun z hz => (hD1 z hz).2, cx _ (by simp) fun z hz => ?_⟩
      rcases List.mem_append.1 hz with hz | hz
      · exact (hD1 z hz).1
      · have := my z hz; omega)

theorem wt_zero {D : List Int} {n m : Int} {x : Plan} (hw : x.wf = true) (h0 : 0 ≤ n) (hn : n ∉ D) (h : ∀ z ∈ D, ¬ (m ≤ z ∧ z < m + x.nodes)) (hm : 0 ≤ m) : wt (x.knots m n) D = 0 := by
  unfold wt
  refine countP_none fun q hq => ?_
  have := Plan.knots_rng x hw m n q hq
  simp only [decide_eq_false_iff_not]
  rintro ⟨h1, _⟩
  rcases h1 with h1 | h1
  · rcases this.2.2.1 with h2 | h2 <;> omega
  · rcases this.2.2.1 with h2 | h2
    · rw [h2] at h1; exact hn h1
    · exact h _ h1 (by omega)

/-- Two parts, one after the other. -/
theorem best_two {n mu mv nu nv N su sv : Int} {Ku Kv : List (Int × Int)} {Bu Bv : List Int} (hu : ∀ z ∈ Bu, mu ≤ z ∧ z < mu + nu) (hv : ∀ z ∈ Bv, mv ≤ z ∧ z < mv + nv) (hd : mu + nu ≤ mv ∨ mv + nv ≤ mu) (h1 : n < mu ∧ mu + nu ≤ n + N) (h2 : n < mv ∧ mv + nv ≤ n + N)
    (iu : ∀ (D : List Int) (i : Nat), n ∈ D → (∀ z, mu ≤ z → z < mu + nu → (z ∈ D ↔ z ∈ Bu.take i)) → i ≤ Bu.length → (wt Ku D : Int) ≤ su ∧ (i = 0 → wt Ku D ≤ 1) ∧ (i = Bu.length → wt Ku D = 0))
    (iv : ∀ (D : List Int) (i : Nat), n ∈ D → (∀ z, mv ≤ z → z < mv + nv → (z ∈ D ↔ z ∈ Bv.take i)) → i ≤ Bv.length → (wt Kv D : Int) ≤ sv ∧ (i = 0 → wt Kv D ≤ 1) ∧ (i = Bv.length → wt Kv D = 0))
    (hs : su ≤ sv) (D : List Int) (j : Nat) (hj : j ≤ Bu.length + Bv.length) (hD : ∀ z, n ≤ z → z < n + N → (z ∈ D ↔ z ∈ n :: (Bu ++ Bv).take j)) (hN : 0 < N) :
    (wt Ku D + wt Kv D : Int) ≤ (if su = sv then su + 1 else max su sv) ∧ (j = Bu.length + Bv.length → wt Ku D = 0 ∧ wt Kv D = 0) := by
  have hn : n ∈ D := (hD n (Int.le_refl _) (by omega)).2 (by simp)
  rw [List.take_append] at hD
  have eu : ∀ z, mu ≤ z → z < mu + nu → (z ∈ D ↔ z ∈ Bu.take j) := fun z z1 z2 => by
    rw [hD z (by omega) (by omega), List.mem_cons, List.mem_append]
    refine ⟨fun h => ?_, fun h => .inr (.inl h)⟩
    rcases h with h | h | h
    · omega
    · exact h
    · have := hv z (List.mem_of_mem_take h); omega
  have ev : ∀ z, mv ≤ z → z < mv + nv → (z ∈ D ↔ z ∈ Bv.take (j - Bu.length)) := fun z z1 z2 => by
    rw [hD z (by omega) (by omega), List.mem_cons, List.mem_append]
    refine ⟨fun h => ?_, fun h => .inr (.inr h)⟩
    rcases h with h | h | h
    · omega
    · have := hu z (List.mem_of_mem_take h); omega
    · exact h
  obtain ⟨v1, v2, v3⟩ := iv D (j - Bu.length) hn ev (by omega)
  by_cases hb : j ≤ Bu.length
  · obtain ⟨u1, u2, u3⟩ := iu D j hn eu hb
    have v2 := v2 (by omega)
    refine ⟨by split <;> omega, fun h => ⟨u3 (by omega), v3 (by omega)⟩⟩
  · obtain ⟨u1, u2, u3⟩ := iu D Bu.length hn (fun z z1 z2 => by rw [eu z z1 z2, List.take_of_length_le (by omega), List.take_length]) (Nat.le_refl _)
    have u3 := u3 rfl
    refine ⟨by split <;> omega, fun h => ⟨u3, v3 (by omega)⟩⟩

theorem Plan.best_bound : ∀ (p : Plan), p.wf = true → ∀ (n a : Int) (D : List Int) (i : Nat), 0 ≤ n → (a < 0 ∨ a ∈ D) → (∀ z, n ≤ z → z < n + p.nodes → (z ∈ D ↔ z ∈ (p.best n).take i)) → i ≤ (p.best n).length →
    (wt (p.knots n a) D : Int) ≤ p.str ∧ (i = 0 → wt (p.knots n a) D ≤ 1) ∧ (i = (p.best n).length → wt (p.knots n a) D = 0) :=
  Plan.wf_ind (fun p hw hc n a D i _ _ _ _ => by rw [Plan.knots_leaf hc, Plan.str_leaf hc]; simp [wt]) (fun p x y hw hc hk hx hy ix iy n a D i h0 ha hD hi => by
    have hn := Plan.nodes_two hk
    have := x.nodes_pos
    have := y.nodes_pos
    have mx := (Plan.best_mem x hx (n + 1) n).2
    have my := (Plan.best_mem y hy (n + 1 + x.nodes) n).2
    rw [wt_cut hc hk]
    have hs := (Plan.str_rng p hw).2.2 hc
    rw [Plan.best_cut hc hk] at hD hi ⊢
    cases i with
    | zero =>
      have hno : ∀ z ∈ D, ¬ (n ≤ z ∧ z < n + p.nodes) := fun z hz h => by
        have := (hD z h.1 h.2).1 hz
        simp at this
      have hnD : n ∉ D := fun h => hno n h ⟨Int.le_refl _, by omega⟩
      rw [wt_zero hx h0 hnD (fun z hz h => hno z hz ⟨by omega, by omega⟩) (by omega), wt_zero hy h0 hnD (fun z hz h => hno z hz ⟨by omega, by omega⟩) (by omega)]
      refine ⟨by split <;> omega, fun _ => by split <;> omega, fun h => by simp at h⟩
    | succ j =>
      simp only [List.take_succ_cons, List.length_cons] at hD hi ⊢
      have hnD : n ∈ D := (hD n (Int.le_refl _) (by omega)).2 (by simp)
      rw [if_neg (fun h => h.2 hnD), Plan.str_cut hc hk]
      have qx := fun (D : List Int) (i : Nat) (h : n ∈ D) => ix (n + 1) n D i (by omega) (.inr h)
      have qy := fun (D : List Int) (i : Nat) (h : n ∈ D) => iy (n + 1 + x.nodes) n D i (by omega) (.inr h)
      by_cases hxy : x.str ≤ y.str
      · rw [if_pos hxy] at hD hi ⊢
        simp only [List.length_append] at hi ⊢
        obtain ⟨k1, k2⟩ := best_two (N := p.nodes) mx my (.inl (by omega)) ⟨by omega, by omega⟩ ⟨by omega, by omega⟩ qx qy hxy D j (by omega) hD (by omega)
        refine ⟨?_, fun h => by omega, fun h => ?_⟩
        · revert k1
          split <;> intro k1 <;> omega
        · have := k2 (by omega); omega
      · rw [if_neg hxy] at hD hi ⊢
        simp only [List.length_append] at hi ⊢
        obtain ⟨k1, k2⟩ := best_two (N := p.nodes) my mx (.inr (by omega)) ⟨by omega, by omega⟩ ⟨by omega, by omega⟩ qy qx (by omega) D j (by omega) hD (by omega)
        refine ⟨?_, fun h => by omega, fun h => ?_⟩
        · rw [if_neg (by omega)] at k1 ⊢
          omega
        · have := k2 (by omega); omega)

/-- The best order is valid, and no more wait than must. -/
theorem Plan.best_valid {p : Plan} (hw : p.wf = true ∧ p.nodes ≤ 255) : p.vsteps (p.best 0) :=
  ⟨hw, (Plan.best_mem p hw.1 0 (-1)).1, begins_chain.2 (Plan.best_chain _ p hw.1 0 (-1) [] (by omega) (fun q h => h) (.inl (by omega)) (by simp))⟩
theorem Plan.best_waits {p : Plan} (hw : p.wf = true ∧ p.nodes ≤ 255) : ∀ x ∈ p.waits (p.best 0), x ≤ p.str := fun x hx => by
  unfold Plan.waits at hx
  rw [if_pos (Plan.best_valid hw)] at hx
  unfold waitL at hx
  obtain ⟨j, hj, rfl⟩ := List.mem_map.1 hx
  have hj := List.mem_range.1 hj
  exact (Plan.best_bound p hw.1 0 (-1) ((p.best 0).take j) j (by omega) (.inl (by omega)) (fun z _ _ => Iff.rfl) (by omega)).1

end Go.Pc
