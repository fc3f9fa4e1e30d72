/- Orders of the cuts of a plan: how much must wait at least. -/
import Derived.Test.YtncjnchmmagkkaaSa
set_option linter.unusedSimpArgs false
set_option linter.unusedVariables false
namespace Go.Pc
open Go Go.Proofs

/-- How many must wait at least. -/
def Plan.str : Plan → Int
  | .mk op _ _ _ ks => if op = 2 ∨ op = 3 then match ks with | [x, y] => if x.str = y.str then x.str + 1 else max x.str y.str | _ => 0 else 0
theorem Plan.str_cut {p x y : Plan} (hc : p.cut) (hk : p.ks = [x, y]) : p.str = if x.str = y.str then x.str + 1 else max x.str y.str := by
  cases p; simp only [Plan.ks] at hk; subst hk
  rw [Plan.str.eq_def]
  simp only [Plan.cut, Plan.op] at hc
  simp only [if_pos hc]
theorem Plan.str_leaf {p : Plan} (hc : ¬ p.cut) : p.str = 0 := by
  cases p
  rw [Plan.str.eq_def]
  simp only [Plan.cut, Plan.op] at hc
  simp only [if_neg hc]
theorem Plan.str_rng : ∀ (p : Plan), p.wf = true → 0 ≤ p.str ∧ p.str ≤ p.nodes ∧ (p.cut → 1 ≤ p.str) :=
  Plan.wf_ind (fun p hw hc => by rw [Plan.str_leaf hc]; exact ⟨by omega, by omega, fun h => absurd h hc⟩) (fun p x y hw hc hk hx hy ix iy => by
    rw [Plan.str_cut hc hk, Plan.nodes_two hk]
    split
    · exact ⟨by omega, by omega, fun _ => by omega⟩
    · exact ⟨by omega, by omega, fun _ => by omega⟩)

theorem first_in {M : Nat → Prop} : ∀ {hi lo : Nat}, lo ≤ hi → ¬ M lo → M hi → ∃ i, lo ≤ i ∧ i < hi ∧ ¬ M i ∧ M (i + 1)
  | 0, lo, h, h1, h2 => by obtain rfl : lo = 0 := by omega
                           exact absurd h2 h1
  | hi + 1, lo, h, h1, h2 => by
    by_cases hm : M hi
    · rcases Nat.lt_or_ge hi lo with h3 | h3
      · obtain rfl : lo = hi + 1 := by omega
        exact absurd h2 h1
      · obtain ⟨i, a, b, c⟩ := first_in h3 h1 hm
        exact ⟨i, a, by omega, c⟩
    · rcases Nat.lt_or_ge hi lo with h3 | h3
      · obtain rfl : lo = hi + 1 := by omega
        exact absurd h2 h1
      · exact ⟨hi, h3, by omega, hm, h2⟩

theorem wt_cut {p x y : Plan} (hc : p.cut) (hk : p.ks = [x, y]) (n a : Int) (D : List Int) :
    wt (p.knots n a) D = wt (x.knots (n + 1) n) D + wt (y.knots (n + 1 + x.nodes) n) D + if (a < 0 ∨ a ∈ D) ∧ n ∉ D then 1 else 0 := by
  rw [Plan.knots_cut hc hk]
  unfold wt
  rw [List.countP_cons, List.countP_append]
  simp only [decide_eq_true_eq]

theorem wt_cut_le {p x y : Plan} (hc : p.cut) (hk : p.ks = [x, y]) (n a : Int) (D : List Int) : wt (x.knots (n + 1) n) D + wt (y.knots (n + 1 + x.nodes) n) D ≤ wt (p.knots n a) D := by
  rw [wt_cut hc hk]; exact Nat.le_add_right _ _

/-- However cuts are ordered, at some time so many wait. -/
theorem Plan.str_wait (Ds : Nat → List Int) (hi : Nat) (hmono : ∀ i j, i ≤ j → j ≤ hi → ∀ x ∈ Ds i, x ∈ Ds j) : ∀ (p : Plan), p.wf = true → ∀ (n a : Int) (lo : Nat), lo ≤ hi → (p.cut → n ∉ Ds lo) → (a < 0 ∨ a ∈ Ds lo) →
    (∀ i, i < hi → ∀ q ∈ p.knots n a, q.1 ∈ Ds (i + 1) → q.2 < 0 ∨ q.2 ∈ Ds i) → (∀ q ∈ p.knots n a, q.1 ∈ Ds hi) → 0 ≤ n → ∃ i, lo ≤ i ∧ i ≤ hi ∧ p.str ≤ wt (p.knots n a) (Ds i) :=
  Plan.wf_ind (fun p hw hc n a lo hlo _ _ _ _ _ => ⟨lo, Nat.le_refl _, hlo, by rw [Plan.str_leaf hc]; omega⟩) (fun p x y hw hc hk hx hy ix iy n a lo hlo hnd ha hbef hall h0 => by
    have hk' := Plan.knots_cut hc hk n a
    have hroot : (n, a) ∈ p.knots n a := by rw [hk']; simp
    have hsx : ∀ q ∈ x.knots (n + 1) n, q ∈ p.knots n a := fun q hq => by rw [hk']; simp [hq]
    have hsy : ∀ q ∈ y.knots (n + 1 + x.nodes) n, q ∈ p.knots n a := fun q hq => by rw [hk']; simp [hq]
    obtain ⟨i0, b1, b2, b3, b4⟩ := first_in (M := fun i => n ∈ Ds i) hlo (hnd hc) (hall _ hroot)
    have ha0 : a < 0 ∨ a ∈ Ds i0 := ha.imp id fun h => hmono _ _ b1 (by omega) _ h
    have kid : ∀ (z : Plan) (m : Int), (m, n) ∈ p.knots n a → m ∉ Ds (i0 + 1) := fun z m hm hin => by
      rcases hbef i0 b2 _ hm hin with h | h
      · simp only at h; omega
      · exact b3 h
    have rootk : ∀ (z : Plan) (m : Int), z.wf = true → z.cut → (m, n) ∈ z.knots m n := fun z m hz hcz => by
      obtain ⟨u, v, huv, _⟩ := Plan.two hz hcz
      rw [Plan.knots_cut hcz huv]; simp
    obtain ⟨i1, c1, c2, c3⟩ := ix (n + 1) n (i0 + 1) (by omega) (fun hcx => kid x _ (hsx _ (rootk x _ hx hcx))) (.inr b4) (fun i hi' q hq => hbef i hi' q (hsx q hq)) (fun q hq => hall q (hsx q hq)) (by omega)
    obtain ⟨i2, d1, d2, d3⟩ := iy (n + 1 + x.nodes) n (i0 + 1) (by omega) (fun hcy => kid y _ (hsy _ (rootk y _ hy hcy))) (.inr b4) (fun i hi' q hq => hbef i hi' q (hsy q hq)) (fun q hq => hall q (hsy q hq)) (by omega)
    have still : ∀ (z : Plan) (m : Int), z.wf = true → ∀ i j, i0 + 1 ≤ i → i ≤ j → j ≤ hi → 1 ≤ wt (z.knots m n) (Ds j) → 1 ≤ wt (z.knots m n) (Ds i) := fun z m hz i j e1 e2 e3 hw1 => by
      obtain ⟨q, hq, hf⟩ := List.countP_pos_iff.1 hw1
      simp only [decide_eq_true_eq] at hf
      obtain ⟨u, r, hr, hr1, hr2⟩ := Anc.free (D := Ds i) (Plan.knots_anc z hz m n) (fun x hx' => by
        simp at hx'; subst hx'
        exact .inr (hmono _ _ e1 (by omega) _ b4)) ⟨q, hq, fun h => hf.2 (hmono _ _ e2 e3 _ h)⟩
      exact List.countP_pos_iff.2 ⟨r, List.mem_of_getElem? hr, by simp [hr1, hr2]⟩
    have rx := Plan.str_rng x hx
    have ry := Plan.str_rng y hy
    rw [Plan.str_cut hc hk]
    by_cases e : x.str = y.str
    · rw [if_pos e]
      by_cases e0 : x.str = 0
      · exact ⟨i0, b1, by omega, by rw [wt_cut hc hk, if_pos ⟨ha0, b3⟩, e0]; omega⟩
      · rcases Nat.le_total i1 i2 with h | h
        · have := still y (n + 1 + x.nodes) hy i1 i2 c1 h d2 (by omega)
          exact ⟨i1, by omega, c2, by have := wt_cut_le hc hk n a (Ds i1); omega⟩
        · have := still x (n + 1) hx i2 i1 d1 h c2 (by omega)
          exact ⟨i2, by omega, d2, by have := wt_cut_le hc hk n a (Ds i2); omega⟩
    · rw [if_neg e]
      rcases Int.le_total x.str y.str with h | h
      · exact ⟨i2, by omega, d2, by have := wt_cut_le hc hk n a (Ds i2); omega⟩
      · exact ⟨i1, by omega, c2, by have := wt_cut_le hc hk n a (Ds i1); omega⟩)

/-- Of valid steps. -/
theorem Plan.str_steps {p : Plan} {S : List Int} (hv : p.vsteps S) : p.str ≤ 0 ∨ ∃ i, i < S.length ∧ p.str ≤ wt (p.knots 0 (-1)) (S.take i) := by
  obtain ⟨hp, hl, hb⟩ := hv
  obtain ⟨f1, f2⟩ := Plan.knots_facts hp.1
  have hall : ∀ q ∈ p.knots 0 (-1), q.1 ∈ S := fun q hq => Classical.byContradiction fun hn => by
    have := nodup_sub (l := q.1 :: S) (m := (p.knots 0 (-1)).map Prod.fst) (List.nodup_cons.2 ⟨hn, begins_nodup hb⟩) fun x hx => by
      rcases List.mem_cons.1 hx with rfl | hx
      · exact List.mem_map_of_mem hq
      · exact begins_mem hb x hx
    simp at this; omega
  obtain ⟨i, _, h2, h3⟩ := Plan.str_wait (fun i => S.take i) S.length (fun i j hij _ x hx => by
      have e : S.take i = (S.take j).take i := by rw [List.take_take, Nat.min_eq_left hij]
      rw [e] at hx
      exact List.mem_of_mem_take hx) p hp.1 0 (-1) 0 (Nat.zero_le _) (fun _ => by simp) (.inl (by omega)) (fun i hi q hq hm => by
      obtain ⟨j, hj⟩ := List.mem_iff_getElem?.1 hm
      have hji : j < i + 1 := by
        have := (List.getElem?_eq_some_iff.1 hj).1
        rw [List.length_take] at this; omega
      rw [List.getElem?_take, if_pos hji] at hj
      obtain ⟨r, hrm, e, _, hab⟩ := begins_iff.1 hb j _ hj
      have := fst_inj f1 hrm hq e
      subst this
      by_cases h : r.2 < 0
      · exact .inl h
      · refine .inr ?_
        have h2 := hab (by omega)
        have e : S.take j = (S.take i).take j := by rw [List.take_take, Nat.min_eq_left (by omega)]
        rw [e] at h2
        exact List.mem_of_mem_take h2) (fun q hq => by simp only [List.take_length]; exact hall q hq) (by omega)
  rcases Nat.lt_or_ge i S.length with h | h
  · exact .inr ⟨i, h, h3⟩
  · refine .inl ?_
    rw [List.take_of_length_le h] at h3
    have : wt (p.knots 0 (-1)) S = 0 := countP_none fun q hq => by simp [hall q hq]
    omega

end Go.Pc
