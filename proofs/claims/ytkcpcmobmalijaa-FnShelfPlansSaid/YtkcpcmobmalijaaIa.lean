/- Mirrored plans: what both sides compute, and that it is undone by itself. -/
import Derived.Test.YtkcpcmobmalijaaHd
set_option linter.unusedSimpArgs false
set_option linter.unusedVariables false
namespace Go.Pc
open Go Go.Proofs

/-- Left and right exchanged. -/
def Plan.mirror : Plan → Int → Plan
  | .mk op at_ pa tu ks, w =>
    if op = 2 then
      match ks with
      | [x, y] => .mk 2 (w - at_) 0 false [y.mirror (w - at_), x.mirror at_]
      | _ => .mk op at_ pa tu ks
    else if op = 3 then
      match ks with
      | [x, y] => .mk 3 at_ 0 false [x.mirror w, y.mirror w]
      | _ => .mk op at_ pa tu ks
    else .mk op at_ pa tu ks
theorem Plan.mirror_down {p x y : Plan} (h : p.op = 2) (hk : p.ks = [x, y]) (w : Int) : p.mirror w = .mk 2 (w - p.at_) 0 false [y.mirror (w - p.at_), x.mirror p.at_] := by
  cases p; simp only [Plan.ks, Plan.op] at hk h; subst hk; rw [Plan.mirror.eq_def]; simp only [h, if_true, Plan.at_]
theorem Plan.mirror_across {p x y : Plan} (h : p.op = 3) (hk : p.ks = [x, y]) (w : Int) : p.mirror w = .mk 3 p.at_ 0 false [x.mirror w, y.mirror w] := by
  cases p; simp only [Plan.ks, Plan.op] at hk h; subst hk; rw [Plan.mirror.eq_def]; have : ¬ ((3 : Int) = 2) := by decide
  simp only [h, if_neg this, if_true, Plan.at_]
theorem Plan.mirror_leaf {p : Plan} (hc : ¬ p.cut) (w : Int) : p.mirror w = p := by
  cases p; unfold Plan.cut at hc; simp only [Plan.op] at hc; rw [Plan.mirror.eq_def]; simp only [if_neg (fun h => hc (.inl h)), if_neg (fun h => hc (.inr h))]
theorem Plan.eta (p : Plan) : p = .mk p.op p.at_ p.pa p.tu p.ks := by cases p; rfl
theorem Plan.cut_pt {p : Plan} (hw : p.wf = true) (hc : p.cut) : p.pa = 0 ∧ p.tu = false := by
  have h := ((Plan.wf_iff p).1 hw).1
  unfold Plan.good at h
  rw [if_pos hc] at h
  exact h.2
theorem Plan.leaf_eq {p : Plan} (hw : p.wf = true) (hc : ¬ p.cut) : p.at_ = 0 ∧ p.ks = [] := by
  have h := ((Plan.wf_iff p).1 hw).1
  unfold Plan.good at h
  rw [if_neg hc] at h
  exact ⟨h.2.1, List.length_eq_zero_iff.1 h.1⟩

/-- How many panes of a number a plan has. -/
def Plan.num (j : Int) : Plan → Nat
  | .mk op at_ pa tu ks => if op = 2 ∨ op = 3 then match ks with | [x, y] => x.num j + y.num j | _ => 0 else if op = 1 ∧ pa = j then 1 else 0
theorem Plan.num_cut {p x y : Plan} (hc : p.cut) (hk : p.ks = [x, y]) (j : Int) : p.num j = x.num j + y.num j := by
  cases p; simp only [Plan.ks] at hk; subst hk; unfold Plan.cut at hc; simp only [Plan.op] at hc; rw [Plan.num.eq_def]; simp only [if_pos hc]
theorem Plan.num_leaf {p : Plan} (hc : ¬ p.cut) (j : Int) : p.num j = if p.op = 1 ∧ p.pa = j then 1 else 0 := by
  cases p; unfold Plan.cut at hc; simp only [Plan.op] at hc; rw [Plan.num.eq_def]; simp only [if_neg hc, Plan.op, Plan.pa] <;> rfl
theorem Plan.num_places (j : Int) : ∀ (p : Plan), p.wf = true → ∀ b, (p.places b).countP (fun q : Place => decide (q.pa = j)) = p.num j :=
  Plan.wf_ind (fun p hw hc b => by
    unfold Plan.places
    rw [Plan.parts_leaf hc, Plan.num_leaf hc]
    by_cases h1 : p.op = 1
    · by_cases h2 : p.pa = j <;> simp [placeOf, h1, h2]
    · simp [placeOf, h1]) (fun p x y hw hc hk hx hy ix iy b => by
    have h1 : placeOf (p, b) = none := by
      unfold placeOf
      rw [if_neg]
      simp only
      unfold Plan.cut at hc
      omega
    unfold Plan.places at *
    rw [Plan.parts_cut hc hk, List.filterMap_cons, h1, List.filterMap_append, List.countP_append, ix, iy, Plan.num_cut hc hk])

/-- Stages below a part of a kind. -/
def Plan.stg : Plan → Int → Int
  | .mk op at_ pa tu ks, a => if op = 2 ∨ op = 3 then match ks with | [x, y] => max (x.stg op) (y.stg op) + (if op = a then 0 else 1) | _ => 0 else 0
theorem Plan.stg_cut {p x y : Plan} (hc : p.cut) (hk : p.ks = [x, y]) (a : Int) : p.stg a = max (x.stg p.op) (y.stg p.op) + (if p.op = a then 0 else 1) := by
  cases p; simp only [Plan.ks] at hk; subst hk; unfold Plan.cut at hc; simp only [Plan.op] at hc; rw [Plan.stg.eq_def]; simp only [if_pos hc, Plan.op] <;> split <;> simp_all
theorem Plan.stg_leaf {p : Plan} (hc : ¬ p.cut) (a : Int) : p.stg a = 0 := by
  cases p; unfold Plan.cut at hc; simp only [Plan.op] at hc; rw [Plan.stg.eq_def]; simp only [if_neg hc]
theorem Plan.stg_rng : ∀ (p : Plan), p.wf = true → ∀ a, 0 ≤ p.stg a ∧ p.stg a ≤ p.nodes :=
  Plan.wf_ind (fun p hw hc a => by rw [Plan.stg_leaf hc]; omega) (fun p x y hw hc hk hx hy ix iy a => by
    have := Plan.nodes_two hk
    have := ix p.op
    have := iy p.op
    rw [Plan.stg_cut hc hk]
    split <;> omega)

theorem Plan.wf_mk {p : Plan} {a b : Plan} (hp : p.op = 2 ∨ p.op = 3) (hk : p.ks = [a, b]) (h0 : p.pa = 0) (ht : p.tu = false) (ha : a.wf = true) (hb : b.wf = true) : p.wf = true := by
  refine (Plan.wf_iff p).2 ⟨?_, fun q hq => ?_⟩
  · unfold Plan.good
    have : p.cut := hp
    rw [if_pos this, hk]
    exact ⟨rfl, h0, ht⟩
  · rw [hk] at hq
    simp at hq
    rcases hq with rfl | rfl <;> assumption

/-- All that is told of a mirrored plan. -/
theorem Plan.mirror_all (k : Work) : ∀ (p : Plan), p.wf = true → ∀ b : Box, p.fits k b.W b.H = true → (p.mirror b.W).wf = true ∧ (p.mirror b.W).nodes = p.nodes ∧ (p.mirror b.W).fits k b.W b.H = true ∧ (p.mirror b.W).mirror b.W = p ∧ (p.mirror b.W).op = p.op ∧ (∀ a, (p.mirror b.W).stg a = p.stg a) ∧ ∀ j, (p.mirror b.W).num j = p.num j :=
  Plan.wf_ind (fun p hw hc b hf => by
    rw [Plan.mirror_leaf hc]
    exact ⟨hw, rfl, hf, Plan.mirror_leaf hc _, rfl, fun _ => rfl, fun _ => rfl⟩) (fun p x y hw hc hk hx hy ix iy b hf => by
    obtain ⟨f1, f2, g1, g2, g3⟩ := Plan.fits_cut hc hk hf
    obtain ⟨w1, n1, c1, e1, o1, s1, m1⟩ := ix _ f1
    obtain ⟨w2, n2, c2, e2, o2, s2, m2⟩ := iy _ f2
    have hpt := Plan.cut_pt hw hc
    have hn := Plan.nodes_two hk
    rcases hc with h | h
    · have hs1 : (p.split b).1 = ⟨b.X, b.Y, p.at_, b.H⟩ := by unfold Plan.split; rw [if_pos h]
      have hs2 : (p.split b).2 = ⟨b.X + p.at_, b.Y, b.W - p.at_, b.H⟩ := by unfold Plan.split; rw [if_pos h]
      rw [hs1] at w1 n1 c1 e1 o1 s1 m1
      rw [hs2] at w2 n2 c2 e2 o2 s2 m2
      simp only at w1 n1 c1 e1 o1 s1 m1 w2 n2 c2 e2 o2 s2 m2
      have g2 := g2 h
      rw [Plan.mirror_down h hk]
      generalize hq : Plan.mk 2 (b.W - p.at_) 0 false [y.mirror (b.W - p.at_), x.mirror p.at_] = q
      have qo : q.op = 2 := by rw [← hq]; rfl
      have qa : q.at_ = b.W - p.at_ := by rw [← hq]; rfl
      have qk : q.ks = [y.mirror (b.W - p.at_), x.mirror p.at_] := by rw [← hq]; rfl
      have qc : q.cut := .inl qo
      have eW : b.W - (b.W - p.at_) = p.at_ := by omega
      refine ⟨Plan.wf_mk (.inl qo) qk (by rw [← hq]; rfl) (by rw [← hq]; rfl) w2 w1, ?_, ?_, ?_, by rw [qo, h], fun a => ?_, fun j => ?_⟩
      · rw [Plan.nodes_two qk, n1, n2, hn]; omega
      · rw [Plan.fits_down k q _ _ _ _ qo qk, qa, c2, eW, c1]
        have a1 : 1 ≤ b.W - p.at_ := by omega
        have a2 : b.W - p.at_ ≤ b.W - 1 := by omega
        simp [a1, a2]
      · rw [Plan.mirror_down qo qk, qa, eW, e1, e2]
        conv => rhs; rw [Plan.eta p, h, hk, hpt.1, hpt.2]
      · rw [Plan.stg_cut qc qk, Plan.stg_cut (.inl h) hk, qo, h, s1, s2, Int.max_comm]
      · rw [Plan.num_cut qc qk, Plan.num_cut (.inl h) hk, m1, m2, Nat.add_comm]
    · have hn2 : ¬ p.op = 2 := by omega
      have hs1 : (p.split b).1 = ⟨b.X, b.Y, b.W, p.at_⟩ := by unfold Plan.split; rw [if_neg hn2]
      have hs2 : (p.split b).2 = ⟨b.X, b.Y + p.at_, b.W, b.H - p.at_⟩ := by unfold Plan.split; rw [if_neg hn2]
      rw [hs1] at w1 n1 c1 e1 o1 s1 m1
      rw [hs2] at w2 n2 c2 e2 o2 s2 m2
      simp only at w1 n1 c1 e1 o1 s1 m1 w2 n2 c2 e2 o2 s2 m2
      have g3 := g3 hn2
      rw [Plan.mirror_across h hk]
      generalize hq : Plan.mk 3 p.at_ 0 false [x.mirror b.W, y.mirror b.W] = q
      have qo : q.op = 3 := by rw [← hq]; rfl
      have qa : q.at_ = p.at_ := by rw [← hq]; rfl
      have qk : q.ks = [x.mirror b.W, y.mirror b.W] := by rw [← hq]; rfl
      have qc : q.cut := .inr qo
      refine ⟨Plan.wf_mk (.inr qo) qk (by rw [← hq]; rfl) (by rw [← hq]; rfl) w1 w2, ?_, ?_, ?_, by rw [qo, h], fun a => ?_, fun j => ?_⟩
      · rw [Plan.nodes_two qk, n1, n2, hn]
      · rw [Plan.fits_across k q _ _ _ _ qo qk, qa, c1, c2]
        simp [g1, g3]
      · rw [Plan.mirror_across qo qk, qa, e1, e2]
        conv => rhs; rw [Plan.eta p, h, hk, hpt.1, hpt.2]
      · rw [Plan.stg_cut qc qk, Plan.stg_cut (.inr h) hk, qo, h, s1, s2]
      · rw [Plan.num_cut qc qk, Plan.num_cut (.inr h) hk, m1, m2])

theorem Plan.cnts_num {p : Plan} (hw : p.wf = true) (n : Nat) (b : Box) : cnts n (p.places b) = (List.range n).map fun (j : Nat) => ((p.num j : Nat) : Int) := by
  unfold cnts
  refine List.map_congr_left fun j _ => ?_
  rw [Plan.num_places j p hw b]

end Go.Pc
