/- The value of a plan. -/
import Derived.Test.YtkcpcmobmalijaaIa
set_option linter.unusedSimpArgs false
set_option linter.unusedVariables false
namespace Go.Pc
open Go Go.Proofs

/-- The values of the panes of a plan. -/
def Plan.worth (p : Plan) (k : Work) (vs : List Int) : List Int := (p.places k.sheet).map fun q => (vs[q.pa.toNat]?).getD 0
def goodV (k : Work) (vs : List Int) : Prop := vs.length = k.Ps.length ∧ ∀ v ∈ vs, 1 ≤ v ∧ v ≤ 1000
instance (k : Work) (vs : List Int) : Decidable (goodV k vs) := inferInstanceAs (Decidable (_ ∧ _))
def Plan.value (p : Plan) (k : Work) (vs : List Int) : Int := if p.valid k ∧ goodV k vs then (p.worth k vs).sum else -1

/-- Counted by panes. -/
def usesV (n : Nat) (l : List Place) (vs : List Int) : List Int := (List.range n).map fun (j : Nat) => ((l.countP (fun q : Place => decide (q.pa = (j : Int))) : Nat) : Int) * (vs[j]?).getD 0
theorem usesV_len (n : Nat) (l : List Place) (vs : List Int) : (usesV n l vs).length = n := by simp [usesV]
theorem usesV_sum {k : Work} {p : Plan} (hv : p.valid k) (vs : List Int) : (usesV k.Ps.length (p.places k.sheet) vs).sum = (p.worth k vs).sum :=
  count_sum k.Ps.length (fun j => (vs[j]?).getD 0) _ (Plan.places_pa k p hv.2.1.1 k.sheet hv.2.2)
theorem usesV_get {n : Nat} {l : List Place} {vs : List Int} {j : Nat} {v c : Int} (hv : vs[j]? = some v) (hc : (cnts n l)[j]? = some c) : (usesV n l vs)[j]? = some (c * v) := by
  have hj : j < n := by have := (List.getElem?_eq_some_iff.1 hc).1; rwa [cnts_len] at this
  rw [cnts_get hj] at hc
  cases hc
  simp only [usesV, List.getElem?_map, List.getElem?_range hj, Option.map_some, hv, Option.getD_some]
theorem usesV_num {p : Plan} (hw : p.wf = true) (n : Nat) (b : Box) (vs : List Int) : usesV n (p.places b) vs = (List.range n).map fun (j : Nat) => ((p.num j : Nat) : Int) * (vs[j]?).getD 0 := by
  unfold usesV
  refine List.map_congr_left fun j _ => ?_
  rw [Plan.num_places j p hw b]

theorem Plan.mirror_valid {p : Plan} {k : Work} (hv : p.valid k) : (p.mirror k.W).valid k ∧ ∀ j, (p.mirror k.W).num j = p.num j := by
  obtain ⟨w1, n1, f1, _, _, _, m1⟩ := Plan.mirror_all k p hv.2.1.1 k.sheet hv.2.2
  exact ⟨⟨hv.1, ⟨w1, by have : (p.mirror k.sheet.W).nodes = p.nodes := n1; have h2 := hv.2.1.2; exact this ▸ h2⟩, f1⟩, m1⟩
/-- The mirrored plan has the same value. -/
theorem Plan.value_mirror {p : Plan} {k : Work} (hv : p.valid k) (vs : List Int) : (p.mirror k.W).value k vs = p.value k vs := by
  obtain ⟨h1, h2⟩ := Plan.mirror_valid hv
  unfold Plan.value
  by_cases hg : goodV k vs
  · rw [if_pos ⟨h1, hg⟩, if_pos ⟨hv, hg⟩, ← usesV_sum h1, ← usesV_sum hv, usesV_num h1.2.1.1, usesV_num hv.2.1.1]
    simp only [h2]
  · rw [if_neg fun h => hg h.2, if_neg fun h => hg h.2]

theorem Plan.worth_rng {p : Plan} {k : Work} {vs : List Int} (hv : p.valid k) (hg : goodV k vs) : ∀ x ∈ p.worth k vs, 1 ≤ x ∧ x ≤ 1000 := fun x hx => by
  obtain ⟨q, hq, rfl⟩ := List.mem_map.1 hx
  have := Plan.places_pa k p hv.2.1.1 k.sheet hv.2.2 q hq
  obtain ⟨v, h⟩ := get_lt (l := vs) (i := q.pa.toNat) (by rw [hg.1]; omega)
  simp only [h, Option.getD_some]
  exact hg.2 v (List.mem_of_getElem? h)

end Go.Pc
