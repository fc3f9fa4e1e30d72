/- The leaves of a plan lie apart, they are its panes and its waste, and they fill the glass. -/
import Derived.Test.YtkcpcmobmalijaaHd
set_option linter.unusedSimpArgs false
set_option linter.unusedVariables false
namespace Go.Pc
open Go Go.Proofs

theorem Box.meets_symm {a b : Box} (h : a.meets b) : b.meets a := by
  unfold Box.meets Box.meet at *
  exact ⟨h.2.1, h.1, by have := h.2.2.1; simp only at *; omega, by have := h.2.2.2; simp only at *; omega⟩
theorem apart_in {a b c d : Box} (h : ¬ c.meets d) (ha : a.inside c) (hb : b.inside d) : ¬ a.meets b := fun hm => by
  unfold Box.inside at ha hb
  apply h
  unfold Box.meets Box.meet at *
  refine ⟨ha.2.1, hb.2.1, ?_, ?_⟩
  · have := hm.2.2.1; simp only at *; omega
  · have := hm.2.2.2; simp only at *; omega

theorem Plan.split_apart (p : Plan) (b : Box) : ¬ (p.split b).1.meets (p.split b).2 := fun h => by
  unfold Plan.split at h
  by_cases h2 : p.op = 2
  · simp only [if_pos h2, Box.meets, Box.meet] at h; omega
  · simp only [if_neg h2, Box.meets, Box.meet] at h; omega

def leafBox (q : Plan × Box) : Option Box := if q.1.cut then none else some q.2
def Plan.leaves (p : Plan) (b : Box) : List Box := (p.parts b).filterMap leafBox
theorem Plan.leaves_leaf {p : Plan} (hc : ¬ p.cut) (b : Box) : p.leaves b = [b] := by
  unfold Plan.leaves; rw [Plan.parts_leaf hc]; simp [leafBox, hc]
theorem Plan.leaves_cut {p x y : Plan} (hc : p.cut) (hk : p.ks = [x, y]) (b : Box) : p.leaves b = x.leaves (p.split b).1 ++ y.leaves (p.split b).2 := by
  have h : leafBox (p, b) = none := by simp [leafBox, hc]
  unfold Plan.leaves; rw [Plan.parts_cut hc hk, List.filterMap_cons, h, List.filterMap_append]

theorem Plan.leaves_in (k : Work) (p : Plan) (hw : p.wf = true) (b : Box) (hb : b.sane) (hf : p.fits k b.W b.H = true) : ∀ c ∈ p.leaves b, c.sane ∧ c.inside b := fun c hc => by
  obtain ⟨q, hq, he⟩ := List.mem_filterMap.1 hc
  have := Plan.parts_in k p hw b hb hf q hq
  unfold leafBox at he
  split at he
  · cases he
  · cases he; exact this

theorem Plan.leaves_apart (k : Work) : ∀ (p : Plan), p.wf = true → ∀ b : Box, b.sane → p.fits k b.W b.H = true → (p.leaves b).Pairwise fun a c => ¬ a.meets c :=
  Plan.wf_ind (fun p hw hc b hb hf => by rw [Plan.leaves_leaf hc]; simp) (fun p x y hw hc hk hx hy ix iy b hb hf => by
    obtain ⟨f1, f2, _⟩ := Plan.fits_cut hc hk hf
    obtain ⟨s1, s2, _⟩ := Plan.split_sane hc hk hb hf
    rw [Plan.leaves_cut hc hk]
    refine List.pairwise_append.2 ⟨ix _ s1 f1, iy _ s2 f2, fun a ha c hc' => ?_⟩
    exact apart_in (Plan.split_apart p b) (Plan.leaves_in k x hx _ s1 f1 a ha).2 (Plan.leaves_in k y hy _ s2 f2 c hc').2)

theorem Plan.leaves_len : ∀ (p : Plan), p.wf = true → ∀ b : Box, 2 * (p.leaves b).length = p.nodes + 1 :=
  Plan.wf_ind (fun p hw hc b => by rw [Plan.leaves_leaf hc, Plan.nodes_leaf hw hc]; rfl) (fun p x y hw hc hk hx hy ix iy b => by
    rw [Plan.leaves_cut hc hk, Plan.nodes_two hk, List.length_append]
    have := ix (p.split b).1
    have := iy (p.split b).2
    omega)

theorem Plan.parts_kind : ∀ (p : Plan), p.wf = true → ∀ b : Box, ∀ q ∈ p.parts b, q.1.cut ∨ q.1.op = 1 ∨ q.1.op = 0 :=
  Plan.wf_ind (fun p hw hc b q hq => by
    rw [Plan.parts_leaf hc] at hq
    simp at hq; subst hq
    have hg := ((Plan.wf_iff p).1 hw).1
    unfold Plan.good at hg
    rw [if_neg hc] at hg
    rcases hg.2.2 with h | h
    · exact .inr (.inl h)
    · exact .inr (.inr h.1)) (fun p x y hw hc hk hx hy ix iy b q hq => by
    rw [Plan.parts_cut hc hk] at hq
    simp only [List.mem_cons, List.mem_append] at hq
    rcases hq with rfl | hq | hq
    · exact .inl hc
    · exact ix _ q hq
    · exact iy _ q hq)

theorem leaves_perm : ∀ l : List (Plan × Box), (∀ q ∈ l, q.1.cut ∨ q.1.op = 1 ∨ q.1.op = 0) → ((l.filterMap placeOf).map Place.box ++ l.filterMap wasteOf).Perm (l.filterMap leafBox)
  | [], _ => by simp
  | q :: l, h => by
    have ih := leaves_perm l fun x hx => h x (by simp [hx])
    rcases h q (by simp) with hc | h1 | h0
    · have e1 : placeOf q = none := by unfold placeOf; rw [if_neg]; unfold Plan.cut at hc; omega
      have e2 : wasteOf q = none := by unfold wasteOf; rw [if_neg]; unfold Plan.cut at hc; omega
      have e3 : leafBox q = none := by simp [leafBox, hc]
      simp only [List.filterMap_cons, e1, e2, e3]
      exact ih
    · have hc : ¬ q.1.cut := by unfold Plan.cut; omega
      have e1 : placeOf q = some ⟨q.1.pa, q.1.tu, q.2⟩ := by simp [placeOf, h1]
      have e2 : wasteOf q = none := by simp [wasteOf, h1]
      have e3 : leafBox q = some q.2 := by simp [leafBox, hc]
      simp only [List.filterMap_cons, e1, e2, e3, List.map_cons, List.cons_append]
      exact ih.cons _
    · have hc : ¬ q.1.cut := by unfold Plan.cut; omega
      have e1 : placeOf q = none := by simp [placeOf, h0]
      have e2 : wasteOf q = some q.2 := by simp [wasteOf, h0]
      have e3 : leafBox q = some q.2 := by simp [leafBox, hc]
      simp only [List.filterMap_cons, e1, e2, e3]
      exact List.perm_middle.trans (ih.cons _)

theorem Plan.leaves_perm (p : Plan) (hw : p.wf = true) (b : Box) : ((p.places b).map Place.box ++ p.wastes b).Perm (p.leaves b) :=
  Go.Pc.leaves_perm _ (Plan.parts_kind p hw b)

/-- All panes and all waste lie apart. -/
theorem Plan.all_apart (k : Work) (p : Plan) (hw : p.wf = true) (b : Box) (hb : b.sane) (hf : p.fits k b.W b.H = true) : ((p.places b).map Place.box ++ p.wastes b).Pairwise fun a c => ¬ a.meets c :=
  ((Plan.leaves_perm p hw b).pairwise_iff fun h1 h2 => h1 (Box.meets_symm h2)).2 (Plan.leaves_apart k p hw b hb hf)
theorem Plan.all_in (k : Work) (p : Plan) (hw : p.wf = true) (b : Box) (hb : b.sane) (hf : p.fits k b.W b.H = true) : ∀ c ∈ (p.places b).map Place.box ++ p.wastes b, c.sane ∧ c.inside b := fun c hc =>
  Plan.leaves_in k p hw b hb hf c ((Plan.leaves_perm p hw b).mem_iff.1 hc)
theorem Plan.all_len (p : Plan) (hw : p.wf = true) (b : Box) : 2 * ((p.places b).map Place.box ++ p.wastes b).length = p.nodes + 1 := by
  rw [(Plan.leaves_perm p hw b).length_eq]; exact Plan.leaves_len p hw b

/-- A pane of a plan fills its glass. -/
theorem Plan.places_fill (k : Work) : ∀ (p : Plan), p.wf = true → ∀ b : Box, p.fits k b.W b.H = true → ∀ q ∈ p.places b, fills k q.pa q.tu q.box.W q.box.H = true :=
  Plan.wf_ind (fun p hw hc b hf q hq => by
    unfold Plan.places at hq
    rw [Plan.parts_leaf hc] at hq
    by_cases h1 : p.op = 1
    · simp only [List.filterMap_cons, placeOf, h1, if_true, List.filterMap_nil, List.mem_singleton] at hq
      subst hq
      rw [Plan.fits_pane k p _ _ h1] at hf
      exact hf
    · simp [placeOf, h1] at hq) (fun p x y hw hc hk hx hy ix iy b hf q hq => by
    obtain ⟨f1, f2, _⟩ := Plan.fits_cut hc hk hf
    unfold Plan.places at hq
    have h1 : placeOf (p, b) = none := by
      unfold placeOf
      rw [if_neg]
      simp only
      unfold Plan.cut at hc
      omega
    rw [Plan.parts_cut hc hk, List.filterMap_cons, h1, List.filterMap_append] at hq
    rcases List.mem_append.1 hq with hq | hq
    · exact ix _ f1 q hq
    · exact iy _ f2 q hq)

theorem Plan.places_in (k : Work) (p : Plan) (hw : p.wf = true) (b : Box) (hb : b.sane) (hf : p.fits k b.W b.H = true) : ∀ q ∈ p.places b, q.box.sane ∧ q.box.inside b := fun q hq =>
  Plan.all_in k p hw b hb hf _ (List.mem_append_left _ (List.mem_map_of_mem hq))

theorem Plan.all_area (k : Work) (p : Plan) (hw : p.wf = true) (b : Box) (hf : p.fits k b.W b.H = true) : (((p.places b).map Place.box ++ p.wastes b).map Box.area).sum = b.W * b.H := by
  rw [List.map_append, List.sum_append_int, ← Plan.area_sum k p hw b hf, Int.add_comm]
  congr 1
  rw [List.map_map]
  congr 1
  refine List.map_congr_left fun q hq => ?_
  rw [fills_area (Plan.places_fill k p hw b hf q hq)]
  rfl

end Go.Pc
