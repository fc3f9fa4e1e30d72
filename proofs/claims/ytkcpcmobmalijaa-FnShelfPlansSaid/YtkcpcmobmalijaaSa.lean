/- Orders of the cuts of a plan: which can be made, and what waits. -/
import Derived.Test.YtkcpcmobmalijaaCg
set_option linter.unusedSimpArgs false
set_option linter.unusedVariables false
namespace Go.Pc
open Go Go.Proofs

/-- The cut with this number can be made when those were made. -/
def canCut (ks : List (Int × Int)) (D : List Int) (n : Int) : Prop := ∃ q ∈ ks, q.1 = n ∧ n ∉ D ∧ (0 ≤ q.2 → q.2 ∈ D)
instance (ks : List (Int × Int)) (D : List Int) (n : Int) : Decidable (canCut ks D n) := inferInstanceAs (Decidable (∃ q ∈ ks, _))
/-- A beginning of an order. -/
def begins (ks : List (Int × Int)) (S : List Int) : Prop := ∀ (i : Nat) (h : i < S.length), canCut ks (S.take i) S[i]
instance (ks : List (Int × Int)) (S : List Int) : Decidable (begins ks S) := Nat.decidableBallLT _ _
theorem begins_iff {ks : List (Int × Int)} {S : List Int} : begins ks S ↔ ∀ (i : Nat) n, S[i]? = some n → canCut ks (S.take i) n :=
  ⟨fun h i n hn => by
    obtain ⟨hi, rfl⟩ := List.getElem?_eq_some_iff.1 hn
    exact h i hi, fun h i hi => h i _ (List.getElem?_eq_getElem hi)⟩

/-- Each has what is above it before it, or among those. -/
def Anc : List Int → List (Int × Int) → Prop
  | _, [] => True
  | K, q :: l => q.2 ∈ K ∧ Anc (q.1 :: K) l
theorem Anc.mono : ∀ {l : List (Int × Int)} {K K' : List Int}, Anc K l → (∀ x ∈ K, x ∈ K') → Anc K' l
  | [], _, _, _, _ => trivial
  | q :: l, K, K', h, hs => ⟨hs _ h.1, Anc.mono h.2 fun x hx => by
      rcases List.mem_cons.1 hx with rfl | hx
      · simp
      · simp [hs x hx]⟩
theorem Anc.app : ∀ {l m : List (Int × Int)} {K : List Int}, Anc K l → Anc (l.map Prod.fst ++ K) m → Anc K (l ++ m)
  | [], _, _, _, h => h
  | q :: l, m, K, h, h2 => ⟨h.1, Anc.app h.2 (h2.mono fun x hx => by
      simp only [List.map_cons, List.cons_append, List.mem_cons, List.mem_append] at hx ⊢
      rcases hx with h | h | h
      · exact .inr (.inl h)
      · exact .inl h
      · exact .inr (.inr h))⟩

theorem Plan.knots_anc : ∀ (p : Plan), p.wf = true → ∀ n a, Anc [a] (p.knots n a) :=
  Plan.wf_ind (fun p hw hc n a => by rw [Plan.knots_leaf hc]; trivial) (fun p x y hw hc hk hx hy ix iy n a => by
    rw [Plan.knots_cut hc hk]
    refine ⟨by simp, ?_⟩
    exact Anc.app ((ix (n + 1) n).mono fun x hx => by simp at hx; simp [hx]) ((iy (n + 1 + x.nodes) n).mono fun x hx => by simp at hx; simp [hx]))

/-- While one is left, one can be made. -/
theorem Anc.free {D : List Int} : ∀ {l : List (Int × Int)} {K : List Int}, Anc K l → (∀ x ∈ K, x < 0 ∨ x ∈ D) → (∃ q ∈ l, q.1 ∉ D) → ∃ (i : Nat) (q : Int × Int), l[i]? = some q ∧ q.1 ∉ D ∧ (q.2 < 0 ∨ q.2 ∈ D)
  | [], _, _, _, ⟨q, hq, _⟩ => by cases hq
  | q :: l, K, h, hK, hl => by
    by_cases hq : q.1 ∈ D
    · obtain ⟨i, r, h1, h2⟩ := Anc.free (D := D) h.2 (fun x hx => by
        rcases List.mem_cons.1 hx with rfl | hx
        · exact .inr hq
        · exact hK x hx) (by
        obtain ⟨r, hr, hn⟩ := hl
        rcases List.mem_cons.1 hr with rfl | hr
        · exact absurd hq hn
        · exact ⟨r, hr, hn⟩)
      exact ⟨i + 1, r, by simpa using h1, h2⟩
    · exact ⟨0, q, rfl, hq, hK _ h.1⟩

theorem Plan.knots_nodup : ∀ (p : Plan), p.wf = true → ∀ n a, ((p.knots n a).map Prod.fst).Nodup :=
  Plan.wf_ind (fun p hw hc n a => by rw [Plan.knots_leaf hc]; simp) (fun p x y hw hc hk hx hy ix iy n a => by
    rw [Plan.knots_cut hc hk]
    have h1 : ∀ z ∈ (x.knots (n + 1) n).map Prod.fst, n + 1 ≤ z ∧ z < n + 1 + x.nodes := fun z hz => by
      obtain ⟨q, hq, rfl⟩ := List.mem_map.1 hz
      have := Plan.knots_rng x hx _ _ q hq
      omega
    have h2 : ∀ z ∈ (y.knots (n + 1 + x.nodes) n).map Prod.fst, n + 1 + x.nodes ≤ z := fun z hz => by
      obtain ⟨q, hq, rfl⟩ := List.mem_map.1 hz
      have := Plan.knots_rng y hy _ _ q hq
      omega
    rw [List.map_cons, List.map_append, List.nodup_cons, List.nodup_append]
    refine ⟨fun hm => ?_, ix _ _, iy _ _, fun u hu v hv e => ?_⟩
    · rcases List.mem_append.1 hm with hm | hm
      · have := h1 _ hm; simp only at this; omega
      · have := h2 _ hm; simp only at this; omega
    · subst e
      have := h1 _ hu
      have := h2 _ hv
      omega)

theorem fst_inj {ks : List (Int × Int)} (h : (ks.map Prod.fst).Nodup) {q r : Int × Int} (hq : q ∈ ks) (hr : r ∈ ks) (e : q.1 = r.1) : q = r := by
  induction ks with
  | nil => cases hq
  | cons k ks ih =>
    rw [List.map_cons, List.nodup_cons] at h
    rcases List.mem_cons.1 hq with h1 | h1 <;> rcases List.mem_cons.1 hr with h2 | h2
    · rw [h1, h2]
    · exact absurd (by rw [← h1, e]; exact List.mem_map_of_mem h2) h.1
    · exact absurd (by rw [← h2, ← e]; exact List.mem_map_of_mem h1) h.1
    · exact ih h.2 h1 h2

theorem nodup_sub {α : Type} [DecidableEq α] : ∀ {l m : List α}, l.Nodup → (∀ x ∈ l, x ∈ m) → l.length ≤ m.length
  | [], _, _, _ => by simp
  | x :: l, m, h, hs => by
    rw [List.nodup_cons] at h
    have hx := hs x (by simp)
    have := nodup_sub (l := l) (m := m.erase x) h.2 fun y hy => (List.mem_erase_of_ne (fun e => h.1 (by rw [← e]; exact hy))).2 (hs y (by simp [hy]))
    rw [List.length_erase_of_mem hx] at this
    have := List.length_pos_of_mem hx
    simp only [List.length_cons]
    omega

/-- How many cuts wait. -/
def wt (ks : List (Int × Int)) (D : List Int) : Nat := ks.countP fun q => decide ((q.2 < 0 ∨ q.2 ∈ D) ∧ q.1 ∉ D)
/-- How many cuts are directly below one. -/
def kidsOf (ks : List (Int × Int)) (n : Int) : Nat := ks.countP fun q => decide (q.2 = n)

theorem countP_four {α : Type} {f g f' g' : α → Bool} : ∀ {l : List α}, (∀ q ∈ l, (f q).toNat + (g q).toNat = (f' q).toNat + (g' q).toNat) → l.countP f + l.countP g = l.countP f' + l.countP g'
  | [], _ => by simp
  | q :: l, h => by
    have h1 := h q (by simp)
    have h2 := countP_four (l := l) fun x hx => h x (by simp [hx])
    simp only [List.countP_cons]
    revert h1
    cases f q <;> cases g q <;> cases f' q <;> cases g' q <;> simp <;> omega

theorem count_one {ks : List (Int × Int)} (h : (ks.map Prod.fst).Nodup) {q : Int × Int} (hq : q ∈ ks) : ks.countP (fun r => decide (r.1 = q.1)) = 1 := by
  induction ks with
  | nil => cases hq
  | cons k ks ih =>
    rw [List.map_cons, List.nodup_cons] at h
    rw [List.countP_cons]
    rcases List.mem_cons.1 hq with rfl | hq
    · have : ks.countP (fun r => decide (r.1 = q.1)) = 0 := by
        rw [List.countP_eq_zero]
        intro r hr
        simp only [decide_eq_true_eq]
        exact fun e => h.1 (e ▸ List.mem_map_of_mem hr)
      simp [this]
    · have : ¬ k.1 = q.1 := fun e => h.1 (e ▸ List.mem_map_of_mem hq)
      simp [this, ih h.2 hq]

theorem free_or {z : Int} {P : Prop} (h : 0 ≤ z → P) : z < 0 ∨ P := by
  by_cases hz : z < 0
  · exact .inl hz
  · exact .inr (h (by omega))

/-- What waits when a cut was made. -/
theorem wt_step {ks : List (Int × Int)} (hn : (ks.map Prod.fst).Nodup) (hr : ∀ q ∈ ks, q.2 < q.1) {D : List Int} (hD : ∀ q ∈ ks, q.1 ∈ D → q.2 < 0 ∨ q.2 ∈ D) {n : Int} (h0 : 0 ≤ n) (h : canCut ks D n) :
    wt ks (D ++ [n]) + 1 = wt ks D + kidsOf ks n := by
  obtain ⟨r, hrm, rfl, hnd, hab⟩ := h
  rw [← count_one hn hrm]
  unfold wt kidsOf
  refine countP_four fun q hq => ?_
  have hlt := hr q hq
  by_cases e : q.1 = r.1
  · have eq := fst_inj hn hq hrm e
    subst eq
    have h2 : ¬ q.2 = q.1 := by omega
    have h3 : q.2 < 0 ∨ q.2 ∈ D := free_or hab
    simp [h2, h3, hnd]
  · by_cases e2 : q.2 = r.1
    · have h3 : q.1 ∉ D := fun hm => by
        rcases hD q hq hm with h | h
        · omega
        · exact hnd (e2 ▸ h)
      have h4 : ¬ r.1 < 0 := by omega
      simp [e, e2, h3, h4, hnd]
    · simp [e, e2]

theorem begins_closed {ks : List (Int × Int)} (hn : (ks.map Prod.fst).Nodup) {S : List Int} (hb : begins ks S) (i : Nat) : ∀ q ∈ ks, q.1 ∈ S.take i → q.2 < 0 ∨ q.2 ∈ S.take i := fun q hq hm => by
  obtain ⟨j, hj⟩ := List.mem_iff_getElem?.1 hm
  have hji : j < i := by
    have := (List.getElem?_eq_some_iff.1 hj).1
    rw [List.length_take] at this; omega
  rw [List.getElem?_take, if_pos hji] at hj
  obtain ⟨r, hrm, e, _, hab⟩ := begins_iff.1 hb j _ hj
  have := fst_inj hn hrm hq e
  subst this
  by_cases h : r.2 < 0
  · exact .inl h
  · refine .inr ?_
    have h2 := hab (by omega)
    obtain ⟨u, hu⟩ := List.mem_iff_getElem?.1 h2
    have huj : u < j := by
      have := (List.getElem?_eq_some_iff.1 hu).1
      rw [List.length_take] at this; omega
    rw [List.getElem?_take, if_pos huj] at hu
    exact List.mem_iff_getElem?.2 ⟨u, by rw [List.getElem?_take, if_pos (by omega)]; exact hu⟩

theorem begins_nodup {ks : List (Int × Int)} {S : List Int} (hb : begins ks S) : S.Nodup := by
  rw [List.nodup_iff_pairwise_ne, List.pairwise_iff_getElem]
  intro i j hi hj hij e
  obtain ⟨q, _, _, h, _⟩ := hb j hj
  apply h
  rw [← e]
  exact List.mem_iff_getElem?.2 ⟨i, by rw [List.getElem?_take, if_pos hij]; exact List.getElem?_eq_getElem hi⟩
theorem begins_mem {ks : List (Int × Int)} {S : List Int} (hb : begins ks S) : ∀ x ∈ S, x ∈ ks.map Prod.fst := fun x hx => by
  obtain ⟨i, hi⟩ := List.mem_iff_getElem?.1 hx
  obtain ⟨q, hq, e, _⟩ := begins_iff.1 hb i x hi
  exact e ▸ List.mem_map_of_mem hq

/-- At each step something waits. -/
theorem wt_pos {ks : List (Int × Int)} {D : List Int} {n : Int} (h : canCut ks D n) : 1 ≤ wt ks D := by
  obtain ⟨q, hq, rfl, h1, h2⟩ := h
  refine List.countP_pos_iff.2 ⟨q, hq, ?_⟩
  have : q.2 < 0 ∨ q.2 ∈ D := free_or h2
  simp [this, h1]

/-- At the last step one waits. -/
theorem wt_last {ks : List (Int × Int)} (hn : (ks.map Prod.fst).Nodup) {S : List Int} (hb : begins ks S) (hl : S.length = ks.length) : wt ks (S.take (S.length - 1)) ≤ 1 := by
  have h1 : wt ks (S.take (S.length - 1)) ≤ (ks.filter fun q => decide (q.1 ∉ S.take (S.length - 1))).length := by
    rw [← List.countP_eq_length_filter]
    refine List.countP_mono_left fun q _ h => ?_
    simp only [decide_eq_true_eq] at h ⊢
    exact h.2
  have h2 : ((ks.filter fun q => decide (q.1 ∉ S.take (S.length - 1))).map Prod.fst ++ S.take (S.length - 1)).length ≤ (ks.map Prod.fst).length := by
    refine nodup_sub (List.nodup_append.2 ⟨?_, (begins_nodup hb).sublist (List.take_sublist _ _), fun a ha b hb' e => ?_⟩) fun x hx => ?_
    · exact hn.sublist ((List.filter_sublist).map _)
    · subst e
      obtain ⟨q, hq, rfl⟩ := List.mem_map.1 ha
      have := (List.mem_filter.1 hq).2
      simp only [decide_eq_true_eq] at this
      exact this hb'
    · rcases List.mem_append.1 hx with h | h
      · obtain ⟨q, hq, rfl⟩ := List.mem_map.1 h
        exact List.mem_map_of_mem (List.mem_filter.1 hq).1
      · exact begins_mem hb x (List.mem_of_mem_take h)
  rw [List.length_append, List.length_map, List.length_map, List.length_take] at h2
  omega

theorem countP_none {α : Type} {f : α → Bool} {l : List α} (h : ∀ q ∈ l, f q = false) : l.countP f = 0 := by
  rw [List.countP_eq_zero]; intro q hq; rw [h q hq]; simp

theorem Plan.knots_kids : ∀ (p : Plan), p.wf = true → ∀ n a, a < n → (kidsOf (p.knots n a) a ≤ 1 ∧ ∀ m, kidsOf (p.knots n a) m ≤ 2) :=
  Plan.wf_ind (fun p hw hc n a _ => by rw [Plan.knots_leaf hc]; simp [kidsOf]) (fun p x y hw hc hk hx hy ix iy n a han => by
    have rx := Plan.knots_rng x hx (n + 1) n
    have ry := Plan.knots_rng y hy (n + 1 + x.nodes) n
    obtain ⟨x1, x2⟩ := ix (n + 1) n (by omega)
    obtain ⟨y1, y2⟩ := iy (n + 1 + x.nodes) n (by have := x.nodes_pos; omega)
    have zx : ∀ m, m ≠ n → (m < n + 1 ∨ n + 1 + (x.nodes : Int) ≤ m) → kidsOf (x.knots (n + 1) n) m = 0 := fun m h1 h2 => countP_none fun q hq => by
      have := rx q hq
      simp only [decide_eq_false_iff_not]; omega
    have zy : ∀ m, m ≠ n → m < n + 1 + (x.nodes : Int) → kidsOf (y.knots (n + 1 + x.nodes) n) m = 0 := fun m h1 h2 => countP_none fun q hq => by
      have := ry q hq
      simp only [decide_eq_false_iff_not]; omega
    have e : ∀ m, kidsOf (p.knots n a) m = kidsOf (x.knots (n + 1) n) m + kidsOf (y.knots (n + 1 + x.nodes) n) m + if a = m then 1 else 0 := fun m => by
      rw [Plan.knots_cut hc hk]
      simp [kidsOf, List.countP_cons, List.countP_append]
    refine ⟨?_, fun m => ?_⟩
    · rw [e, zx a (by omega) (by omega), zy a (by omega) (by omega)]; simp
    · rw [e]
      by_cases h1 : m = n
      · subst h1
        rw [if_neg (by omega)]
        omega
      · by_cases h2 : a = m
        · rw [zx m h1 (by omega), zy m h1 (by omega)]; split <;> omega
        · rw [if_neg h2]
          by_cases h3 : m < n + 1 + (x.nodes : Int)
          · rw [zy m h1 h3]; have := x2 m; omega
          · rw [zx m h1 (by omega)]; have := y2 m; omega)

theorem Plan.knots_root {p : Plan} (hw : p.wf = true) (hne : p.knots 0 (-1) ≠ []) : wt (p.knots 0 (-1)) [] = 1 := by
  by_cases hc : p.cut
  · obtain ⟨x, y, hk, hx, hy, _⟩ := Plan.two hw hc
    rw [Plan.knots_cut hc hk]
    have rx := Plan.knots_rng x hx (0 + 1) 0
    have ry := Plan.knots_rng y hy (0 + 1 + x.nodes) 0
    unfold wt
    rw [List.countP_cons, countP_none]
    · simp
    · intro q hq
      rcases List.mem_append.1 hq with hq | hq
      · have := rx q hq; simp only [decide_eq_false_iff_not]; intro h; rcases h.1 with h | h
        · omega
        · cases h
      · have := ry q hq; simp only [decide_eq_false_iff_not]; intro h; rcases h.1 with h | h
        · have := x.nodes_pos; omega
        · cases h
  · exact absurd (Plan.knots_leaf hc _ _) hne

/-- All facts of a plan's cuts. -/
theorem Plan.knots_facts {p : Plan} (hw : p.wf = true) : ((p.knots 0 (-1)).map Prod.fst).Nodup ∧ (∀ q ∈ p.knots 0 (-1), q.2 < q.1 ∧ 0 ≤ q.1 ∧ q.1 < p.nodes ∧ -1 ≤ q.2) :=
  ⟨Plan.knots_nodup p hw 0 (-1), fun q hq => by
    have := Plan.knots_rng p hw 0 (-1) q hq
    omega⟩

/-- Valid steps. -/
def Plan.vsteps (p : Plan) (S : List Int) : Prop := (p.wf = true ∧ p.nodes ≤ 255) ∧ S.length = (p.knots 0 (-1)).length ∧ begins (p.knots 0 (-1)) S
instance (p : Plan) (S : List Int) : Decidable (p.vsteps S) := inferInstanceAs (Decidable (_ ∧ _))
/-- What WaitingOf tells. -/
def waitL (ks : List (Int × Int)) (S : List Int) (i : Nat) : List Int := (List.range i).map fun j => ((wt ks (S.take j) : Nat) : Int)
def Plan.waits (p : Plan) (S : List Int) : List Int := if p.vsteps S then waitL (p.knots 0 (-1)) S S.length else []
theorem waitL_len (ks : List (Int × Int)) (S : List Int) (i : Nat) : (waitL ks S i).length = i := by simp [waitL]
theorem waitL_next (ks : List (Int × Int)) (S : List Int) (i : Nat) : waitL ks S (i + 1) = waitL ks S i ++ [((wt ks (S.take i) : Nat) : Int)] := by simp [waitL, List.range_succ]
theorem waitL_get {ks : List (Int × Int)} {S : List Int} {i j : Nat} (h : j < i) : (waitL ks S i)[j]? = some ((wt ks (S.take j) : Nat) : Int) := by
  simp only [waitL, List.getElem?_map, List.getElem?_range h]; rfl

theorem wt_le (ks : List (Int × Int)) (D : List Int) : wt ks D ≤ ks.length := List.countP_le_length
theorem kidsOf_le (ks : List (Int × Int)) (n : Int) : kidsOf ks n ≤ ks.length := List.countP_le_length

/-- From step to step. -/
theorem wt_next {p : Plan} {S : List Int} (hv : p.vsteps S) {i : Nat} {n : Int} (h : S[i]? = some n) : wt (p.knots 0 (-1)) (S.take (i + 1)) + 1 = wt (p.knots 0 (-1)) (S.take i) + kidsOf (p.knots 0 (-1)) n ∧ kidsOf (p.knots 0 (-1)) n ≤ 2 ∧ 1 ≤ wt (p.knots 0 (-1)) (S.take i) ∧ 0 ≤ n ∧ n < 255 := by
  obtain ⟨hp, hl, hb⟩ := hv
  obtain ⟨f1, f2⟩ := Plan.knots_facts hp.1
  have hc := begins_iff.1 hb i n h
  have hn : 0 ≤ n ∧ n < 255 := by
    obtain ⟨q, hq, rfl, _⟩ := hc
    have := f2 q hq; omega
  have := wt_step f1 (fun q hq => (f2 q hq).1) (begins_closed f1 hb i) hn.1 hc
  rw [List.take_add_one, h]
  exact ⟨this, (Plan.knots_kids p hp.1 0 (-1) (by omega)).2 n, wt_pos hc, hn⟩
theorem step_in {S : List Int} {i : Nat} {M : Nat → Int → Prop} (h : ∀ (j : Nat) n, j < i → S[j]? = some n → M j n) {n : Int} (hn : S[i]? = some n) (hm : M i n) : ∀ (j : Nat) m, j < i + 1 → S[j]? = some m → M j m := fun j m hj hm' => by
  rcases Nat.lt_succ_iff_lt_or_eq.1 hj with h1 | h1
  · exact h j m h1 hm'
  · subst h1
    rw [hn] at hm'
    cases hm'
    exact hm

theorem countP_next {α : Type} {f : α → Bool} {l : List α} {i : Nat} {x : α} (h : l[i]? = some x) : (l.take (i + 1)).countP f = (l.take i).countP f + (if f x = true then 1 else 0) := by
  rw [List.take_add_one, h, List.countP_append]
  simp [List.countP_cons]

end Go.Pc
