/- The law of places without order: it holds of all bytes. -/
import Derived.Test.YtokghjmmdnhbeaaWc
import Derived.Test.YtokghjmmdnhbeaaRow
import Derived.Test.YtokghjmmdnhbeaaMl
import Derived.Test.YtokghjmmdnhbeaaSa
import Derived.Test.YtokghjmmdnhbeaaHe
set_option linter.unusedSimpArgs false
set_option linter.unusedVariables false
namespace Go.Pc
open Go Go.Proofs

theorem Work.nrmd (k : Work) : nrmL k.cs = k.cs := by rw [Work.cs]; simp [nrmL, AV.nrm]
theorem Plan.nrmd (p : Plan) : nrmL p.cs = p.cs := by rw [Plan.cs_eq]; simp [nrmL, AV.nrm]

/-! ### The plain law -/

theorem Box.meets_self {b : Box} (h : b.sane) : b.meets b := by
  have ho := Box.sane_ok h
  refine ⟨ho, ho, ?_⟩
  unfold Box.sane at h
  unfold Box.meet
  simp only
  omega
theorem places_nodup {p : Plan} {k : Work} (hv : p.valid k) : (p.places k.sheet).Nodup := by
  have ha := Plan.all_apart k p hv.2.1.1 k.sheet (Work.sheet_sane hv.1) hv.2.2
  have hi := Plan.places_in k p hv.2.1.1 k.sheet (Work.sheet_sane hv.1) hv.2.2
  have h1 := (List.pairwise_append.1 ha).1
  rw [List.pairwise_map] at h1
  refine List.Pairwise.imp_of_mem (fun {a b} hma hmb hab => ?_) h1
  exact fun e => by subst e; exact hab (Box.meets_self (hi a hma).1)
theorem same_back {l m : List Place} (hl : l.Nodup) (h : sameL l m) : ∀ a ∈ m, a ∈ l := fun a ha => Classical.byContradiction fun hn => by
  have h1 : (a :: l).Nodup := List.nodup_cons.2 ⟨hn, hl⟩
  have h2 := nodup_sub (m := m) h1 (fun x hx => by
    rcases List.mem_cons.1 hx with rfl | hx
    · exact ha
    · exact h.2 x hx)
  have := h.1
  simp at h2
  omega
theorem same_symm {l m : List Place} (hl : l.Nodup) (hm : m.Nodup) : sameL l m ↔ sameL m l :=
  ⟨fun h => ⟨h.1.symm, same_back hl h⟩, fun h => ⟨h.1.symm, same_back hm h⟩⟩
theorem count_le {l m : List Place} (hl : l.Nodup) (h : ∀ a ∈ l, a ∈ m) (j : Int) : l.countP (fun q : Place => decide (q.pa = j)) ≤ m.countP (fun q : Place => decide (q.pa = j)) := by
  rw [List.countP_eq_length_filter, List.countP_eq_length_filter]
  refine nodup_sub (hl.filter _) fun x hx => ?_
  rw [List.mem_filter] at hx ⊢
  exact ⟨h x hx.1, hx.2⟩
theorem same_used {k : Work} {p q : Plan} (h : p.same q k) : p.used k = q.used k := by
  have hp := h.1.1
  have hq := h.1.2
  unfold Plan.used
  rw [if_pos hp, if_pos hq]
  unfold cnts
  refine List.map_congr_left fun j _ => ?_
  have h1 := count_le (places_nodup hp) h.2.2 (j : Int)
  have h2 := count_le (places_nodup hq) (same_back (places_nodup hp) h.2) (j : Int)
  rw [Nat.le_antisymm h1 h2]

end Go.Pc
