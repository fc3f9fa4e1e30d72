/- The law of places: panes lie on the glass. -/
import Derived.Test.YtokghjmmdnhbeaaMp
import Derived.Test.YtokghjmmdnhbeaaMl
import Derived.Test.YtokghjmmdnhbeaaKa
set_option linter.unusedSimpArgs false
set_option linter.unusedVariables false
namespace Go.Pc
open Go Go.Proofs

/-- The places of a valid plan are valid, if they are not too many. -/
theorem Plan.places_good {k : Work} {p : Plan} (hv : p.valid k) : ∀ q ∈ p.places k.sheet, q.good k := fun q hq => by
  have h := Plan.places_in k p hv.2.1.1 k.sheet (Work.sheet_sane hv.1) hv.2.2 q hq
  exact ⟨Box.sane_ok h.1, h.2, Plan.places_fill k p hv.2.1.1 k.sheet hv.2.2 q hq⟩
theorem Plan.places_ok {k : Work} {p : Plan} (hv : p.valid k) (h12 : (p.places k.sheet).length ≤ 12) : placesOk k (p.places k.sheet) := by
  refine ⟨⟨hv.1, h12⟩, Plan.places_good hv, ?_⟩
  have h := Plan.all_apart k p hv.2.1.1 k.sheet (Work.sheet_sane hv.1) hv.2.2
  exact (List.pairwise_append.1 h).1
theorem Place.good_ways {k : Work} (hk : k.ok) {q : Place} (h : q.good k) : ∃ p, k.Ps[q.pa.toNat]? = some p ∧ 0 ≤ q.pa ∧ waysOk p q.box.W q.box.H ∧ 1 ≤ ways p q.box.W q.box.H := by
  obtain ⟨h1, h2, h3⟩ := h
  have h0 : 0 ≤ q.pa ∧ q.pa ≤ (k.Ps.length : Int) - 1 := Classical.byContradiction fun hn => by rw [fills_out k _ _ _ _ hn] at h3; cases h3
  obtain ⟨p, hp⟩ := get_lt (l := k.Ps) (i := q.pa.toNat) (by omega)
  have hpo := hk.2.2.1 p (List.mem_of_getElem? hp)
  unfold Box.ok at h1
  refine ⟨p, hp, h0.1, ⟨hpo, by omega, by omega⟩, ?_⟩
  rw [fills_in hp h0.1] at h3
  unfold ways
  cases ht : q.tu
  · rw [ht] at h3
    simp at h3
    rw [if_pos (by omega)]; split <;> omega
  · rw [ht] at h3
    simp at h3
    have h4 : p.Tu = true ∧ p.W ≠ p.H ∧ p.H ≤ q.box.W ∧ p.W ≤ q.box.H := ⟨h3.1.1.1, h3.1.1.2, by omega, by omega⟩
    rw [if_pos h4]; split <;> omega

end Go.Pc
