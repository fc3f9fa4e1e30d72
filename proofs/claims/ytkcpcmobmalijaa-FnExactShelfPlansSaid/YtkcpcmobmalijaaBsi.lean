/- Rows of panes on sheets: the plans are valid, have each pane once, and at most three stages. -/
import Derived.Test.YtkcpcmobmalijaaBse
import Derived.Test.YtkcpcmobmalijaaIb
import Derived.Test.YtkcpcmobmalijaaHb
set_option linter.unusedSimpArgs false
set_option linter.unusedVariables false
namespace Go.Pc
open Go Go.Proofs

theorem wf_cutB {o c : Int} {x y : Plan} (ho : o = 2 ∨ o = 3) (hx : x.wf = true) (hy : y.wf = true) : (Plan.mk o c 0 false [x, y]).wf = true := by
  rw [Plan.wf_iff]
  refine ⟨?_, fun q hq => by simp [Plan.ks] at hq; rcases hq with rfl | rfl <;> assumption⟩
  unfold Plan.good
  rw [if_pos (by unfold Plan.cut; simpa [Plan.op] using ho)]
  simp [Plan.ks, Plan.pa, Plan.tu]
theorem wf_paneB (i : Int) : (Plan.mk 1 0 i false []).wf = true := by
  rw [Plan.wf_iff]
  refine ⟨?_, fun q hq => by simp [Plan.ks] at hq⟩
  simp [Plan.good, Plan.cut, Plan.op, Plan.ks, Plan.at_]
theorem wf_waste : wasteP.wf = true := by
  rw [Plan.wf_iff]
  refine ⟨?_, fun q hq => by simp [wasteP, Plan.ks] at hq⟩
  simp [wasteP, Plan.good, Plan.cut, Plan.op, Plan.ks, Plan.at_, Plan.pa, Plan.tu]
theorem nodes_cutB (o c : Int) (x y : Plan) : (Plan.mk o c 0 false [x, y]).nodes = 1 + x.nodes + y.nodes := Plan.nodes_two rfl
theorem fits_waste (k : Work) (w h : Int) : wasteP.fits k w h = true := Plan.fits_else k _ w h (by simp [wasteP, Plan.op]) (by simp [wasteP, Plan.op]) (by simp [wasteP, Plan.op])
theorem nodes_waste : wasteP.nodes = 1 := by simp [wasteP, Plan.nodes_eq, Plan.ks, Plan.nodesL]
theorem nodes_pane (i : Int) : (Plan.mk 1 0 i false []).nodes = 1 := by simp [Plan.nodes_eq, Plan.ks, Plan.nodesL]
/-- The panes of a plan, in order. -/
def Plan.pas (p : Plan) (b : Box) : List Int := (p.places b).map Place.pa
theorem pas_cut (o c : Int) (ho : o = 2 ∨ o = 3) (x y : Plan) (b : Box) : (Plan.mk o c 0 false [x, y]).pas b = x.pas ((Plan.mk o c 0 false [x, y]).split b).1 ++ y.pas ((Plan.mk o c 0 false [x, y]).split b).2 := by
  unfold Plan.pas Plan.places
  rw [Plan.parts_cut (by unfold Plan.cut; simpa [Plan.op] using ho) rfl, List.filterMap_cons]
  have : placeOf (Plan.mk o c 0 false [x, y], b) = none := by unfold placeOf; rw [if_neg (by simp only [Plan.op]; omega)]
  rw [this, List.filterMap_append, List.map_append]
theorem pas_waste (b : Box) : wasteP.pas b = [] := by
  unfold Plan.pas Plan.places
  rw [Plan.parts_leaf (by simp [Plan.cut, wasteP, Plan.op])]
  simp [placeOf, wasteP, Plan.op]
theorem pas_pane (i : Int) (b : Box) : (Plan.mk 1 0 i false []).pas b = [i] := by
  unfold Plan.pas Plan.places
  rw [Plan.parts_leaf (by simp [Plan.cut, Plan.op])]
  simp [placeOf, Plan.op, Plan.pa]

theorem stg_leB (o c : Int) (ho : o = 2 ∨ o = 3) (x y : Plan) (a : Int) : (Plan.mk o c 0 false [x, y]).stg a ≤ max (x.stg o) (y.stg o) + 1 := by
  rw [Plan.stg_cut (x := x) (y := y) (by unfold Plan.cut; simpa [Plan.op] using ho) rfl]
  simp only [Plan.op]
  have : (if o = a then (0 : Int) else 1) ≤ 1 := by by_cases h : o = a <;> simp [h]
  omega
theorem stg_eqB (o c : Int) (ho : o = 2 ∨ o = 3) (x y : Plan) : (Plan.mk o c 0 false [x, y]).stg o = max (x.stg o) (y.stg o) := by
  rw [Plan.stg_cut (x := x) (y := y) (by unfold Plan.cut; simpa [Plan.op] using ho) rfl]
  simp [Plan.op]
theorem oneP_all {k : Work} (hk : plainW k) {i h : Int} (hi : 0 ≤ i ∧ i < (k.Ps.length : Int)) (hh : hOf k i ≤ h) :
    (oneP k i h).wf = true ∧ (oneP k i h).nodes ≤ 3 ∧ (oneP k i h).fits k (wOf k i) h = true ∧ (∀ b, (oneP k i h).pas b = [i]) ∧ (oneP k i h).stg 3 = 0 ∧ ∀ a, (oneP k i h).stg a ≤ 1 := by
  obtain ⟨h1, h2, h3⟩ := hk.pane hi
  have hf : (Plan.mk 1 0 i false []).fits k (wOf k i) (hOf k i) = true := by
    rw [Plan.fits_pane k _ _ _ rfl]
    simp only [Plan.pa, Plan.tu]
    rw [fills_in (paneA_get hi) hi.1]
    simp [wOf, hOf]
  have hs : ∀ a, (Plan.mk 1 0 i false []).stg a = 0 := fun a => Plan.stg_leaf (by simp [Plan.cut, Plan.op]) a
  have hs0 : ∀ a, wasteP.stg a = 0 := fun a => Plan.stg_leaf (by simp [Plan.cut, wasteP, Plan.op]) a
  unfold oneP
  by_cases c : (paneA k i).H < h
  · rw [if_pos c]
    refine ⟨wf_cutB (.inr rfl) (wf_paneB i) wf_waste, by rw [nodes_cutB, nodes_pane, nodes_waste]; omega, ?_, fun b => ?_, ?_, fun a => ?_⟩
    · rw [Plan.fits_across k _ _ _ _ _ rfl rfl]
      simp only [Plan.at_]
      unfold hOf at hf
      rw [hf, fits_waste]
      simp only [Bool.and_eq_true, Bool.and_true]
      exact ⟨decide_eq_true (by omega), decide_eq_true (by unfold hOf at *; omega)⟩
    · rw [pas_cut _ _ (.inr rfl), pas_pane, pas_waste]; rfl
    · rw [stg_eqB _ _ (.inr rfl), hs, hs0]; rfl
    · have := stg_leB 3 (paneA k i).H (.inr rfl) (Plan.mk 1 0 i false []) wasteP a
      rw [hs, hs0] at this
      omega
  · rw [if_neg c]
    have e : hOf k i = h := by unfold hOf at *; omega
    refine ⟨wf_paneB i, by rw [nodes_pane]; omega, by rw [← e]; exact hf, fun b => pas_pane i b, hs 3, fun a => by rw [hs]; omega⟩

theorem rowP_all {k : Work} (hk : plainW k) (h : Int) : ∀ (r : List Int) (w : Int), (∀ i ∈ r, (0 ≤ i ∧ i < (k.Ps.length : Int)) ∧ hOf k i ≤ h) → sumI (wOf k) r ≤ w →
    (rowP k r w h).wf = true ∧ (rowP k r w h).nodes ≤ 4 * r.length + 1 ∧ (rowP k r w h).fits k w h = true ∧ (∀ b, (rowP k r w h).pas b = r) ∧ (rowP k r w h).stg 2 ≤ 1 ∧ ∀ a, (rowP k r w h).stg a ≤ 2
  | [], w, _, _ => by
    have hs0 : ∀ a, wasteP.stg a = 0 := fun a => Plan.stg_leaf (by simp [Plan.cut, wasteP, Plan.op]) a
    rw [rowP]
    exact ⟨wf_waste, by rw [nodes_waste]; simp, fits_waste k w h, pas_waste, by rw [hs0]; omega, fun a => by rw [hs0]; omega⟩
  | i :: r, w, hi, hw => by
    obtain ⟨hi1, hi2⟩ := hi i (by simp)
    obtain ⟨o1, o2, o3, o4, o5, o6⟩ := oneP_all hk hi1 hi2
    have hr := fun j hj => hi j (List.mem_cons_of_mem _ hj)
    rw [sumI_cons] at hw
    have hpos : r ≠ [] → 0 < sumI (wOf k) r := fun hne => by
      have hge : ∀ l : List Int, (∀ j ∈ l, (0 ≤ j ∧ j < (k.Ps.length : Int))) → (l.length : Int) ≤ sumI (wOf k) l := fun l => by
        induction l with
        | nil => simp [sumI]
        | cons a l ih =>
          intro hl
          have h1 := (hk.pane (hl a (by simp))).1.1
          have h2 := ih fun j hj => hl j (by simp [hj])
          rw [sumI_cons]
          simp only [List.length_cons]
          unfold wOf at *
          omega
      have h1 := hge r fun j hj => (hr j hj).1
      have h2 := List.length_pos_iff.2 hne
      omega
    have h0 : 0 ≤ sumI (wOf k) r := by
      rcases Classical.em (r = []) with e | e
      · subst e; simp [sumI]
      · have := hpos e; omega
    have hiw := (hk.pane hi1).1.1
    rw [rowP]
    by_cases c : (paneA k i).W = w
    · rw [if_pos c]
      have hr0 : r = [] := Classical.byContradiction fun hne => by have := hpos hne; unfold wOf at *; omega
      subst hr0
      exact ⟨o1, by simp only [List.length_cons, List.length_nil]; omega, by rw [← c]; exact o3, o4, o6 2, fun a => by have := o6 a; omega⟩
    · rw [if_neg c]
      obtain ⟨q1, q2, q3, q4, q5, q6⟩ := rowP_all hk h r (w - (paneA k i).W) hr (by unfold wOf at *; omega)
      refine ⟨wf_cutB (.inl rfl) o1 q1, by rw [nodes_cutB]; simp only [List.length_cons]; omega, ?_, fun b => ?_, ?_, fun a => ?_⟩
      · rw [Plan.fits_down k _ _ _ _ _ rfl rfl]
        simp only [Plan.at_]
        unfold wOf at *
        rw [o3, q3]
        simp only [Bool.and_eq_true, Bool.and_true]
        exact ⟨decide_eq_true (by omega), decide_eq_true (by omega)⟩
      · rw [pas_cut _ _ (.inl rfl), o4, q4]; rfl
      · rw [stg_eqB _ _ (.inl rfl)]
        have := o6 2
        omega
      · have h1 := stg_leB 2 (paneA k i).W (.inl rfl) (oneP k i h) (rowP k r (w - (paneA k i).W) h) a
        have := o6 2
        omega

theorem highs_pos {k : Work} (hk : plainW k) : ∀ (t : List (List Int)), (∀ r ∈ t, RowOk k r) → (t.length : Int) ≤ (t.map (highR k)).sum
  | [], _ => by simp
  | r :: t, h => by
    have h1 := highs_pos hk t fun x hx => h x (by simp [hx])
    have h2 := h r (by simp)
    have h3 : 1 ≤ highR k r := by
      cases hr : r with
      | nil => exact absurd hr h2.ne
      | cons i l =>
        have := (hk.pane (h2.idx i (by rw [hr]; simp))).2.1.1
        simpa [highR, hOf] using this
    simp only [List.length_cons, List.map_cons, List.sum_cons]
    omega

theorem sheetP_all {k : Work} (hk : plainW k) : ∀ (t : List (List Int)) (h : Int), (∀ r ∈ t, RowOk k r) → (t.map (highR k)).sum ≤ h →
    (sheetP k t h).wf = true ∧ (sheetP k t h).nodes ≤ 4 * t.flatten.length + 2 * t.length + 1 ∧ (sheetP k t h).fits k k.W h = true ∧ (∀ b, (sheetP k t h).pas b = t.flatten) ∧ (sheetP k t h).stg 3 ≤ 2 ∧ ∀ a, (sheetP k t h).stg a ≤ 3
  | [], h, _, _ => by
    have hs0 : ∀ a, wasteP.stg a = 0 := fun a => Plan.stg_leaf (by simp [Plan.cut, wasteP, Plan.op]) a
    rw [sheetP]
    exact ⟨wf_waste, by rw [nodes_waste]; simp, fits_waste k k.W h, pas_waste, by rw [hs0]; omega, fun a => by rw [hs0]; omega⟩
  | [] :: t, h, hr, _ => absurd rfl (hr [] (by simp)).ne
  | (i :: r) :: t, h, hr, hh => by
    have h0 := hr (i :: r) (by simp)
    have ht := fun x hx => hr x (List.mem_cons_of_mem _ hx)
    have hp := highs_pos hk t ht
    have hi1 := (hk.pane (h0.idx i (by simp))).2.1.1
    have eh : highR k (i :: r) = (paneA k i).H := rfl
    simp only [List.map_cons, List.sum_cons, eh] at hh
    obtain ⟨o1, o2, o3, o4, o5, o6⟩ := rowP_all hk (paneA k i).H (i :: r) k.W (fun j hj => ⟨h0.idx j hj, h0.high j hj⟩) h0.wide
    simp only [List.length_cons] at o2
    rw [sheetP]
    by_cases c : (paneA k i).H = h
    · rw [if_pos c]
      have ht0 : t = [] := by
        cases t with
        | nil => rfl
        | cons a b => simp only [List.length_cons] at hp; omega
      subst ht0
      refine ⟨o1, by simp; omega, by rw [← c]; exact o3, fun b => by rw [o4]; simp, o6 3, fun a => by have := o6 a; omega⟩
    · rw [if_neg c]
      obtain ⟨q1, q2, q3, q4, q5, q6⟩ := sheetP_all hk t (h - (paneA k i).H) ht (by omega)
      refine ⟨wf_cutB (.inr rfl) o1 q1, by rw [nodes_cutB, List.flatten_cons, List.length_append]; simp only [List.length_cons]; omega, ?_, fun b => ?_, ?_, fun a => ?_⟩
      · rw [Plan.fits_across k _ _ _ _ _ rfl rfl]
        simp only [Plan.at_]
        rw [o3, q3]
        simp only [Bool.and_eq_true, Bool.and_true]
        exact ⟨decide_eq_true (by omega), decide_eq_true (by omega)⟩
      · rw [pas_cut _ _ (.inr rfl), o4, q4]; rfl
      · rw [stg_eqB _ _ (.inr rfl)]
        have := o6 3
        omega
      · have h1 := stg_leB 3 (paneA k i).H (.inr rfl) (rowP k (i :: r) k.W (paneA k i).H) (sheetP k t (h - (paneA k i).H)) a
        have := o6 3
        omega

end Go.Pc
