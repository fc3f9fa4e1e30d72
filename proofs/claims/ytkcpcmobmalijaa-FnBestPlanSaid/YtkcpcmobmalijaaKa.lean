/- Pruned plans: what the program computes; the law of pruned plans: it holds of all bytes. -/
import Derived.Test.YtkcpcmobmalijaaIb
import Derived.Test.YtkcpcmobmalijaaRow
set_option linter.unusedSimpArgs false
set_option linter.unusedVariables false
namespace Go.Pc
open Go Go.Proofs

/-- Whether a plan has a pane. -/
def Plan.hasP : Plan → Bool
  | .mk op at_ pa tu ks => if op = 2 ∨ op = 3 then match ks with | [x, y] => x.hasP || y.hasP | _ => false else decide (op = 1)
theorem Plan.hasP_cut {p x y : Plan} (hc : p.cut) (hk : p.ks = [x, y]) : p.hasP = (x.hasP || y.hasP) := by
  cases p; simp only [Plan.ks] at hk; subst hk; unfold Plan.cut at hc; simp only [Plan.op] at hc; rw [Plan.hasP.eq_def]; simp only [if_pos hc]
theorem Plan.hasP_leaf {p : Plan} (hc : ¬ p.cut) : p.hasP = decide (p.op = 1) := by
  cases p; unfold Plan.cut at hc; simp only [Plan.op] at hc; rw [Plan.hasP.eq_def]; simp only [if_neg hc, Plan.op] <;> rfl
/-- Without cuts in waste. -/
def Plan.prune : Plan → Plan
  | .mk op at_ pa tu ks => if op = 2 ∨ op = 3 then match ks with | [x, y] => if (x.hasP || y.hasP) = true then .mk op at_ 0 false [x.prune, y.prune] else .zero | _ => .mk op at_ pa tu ks else .mk op at_ pa tu ks
theorem Plan.prune_cut {p x y : Plan} (hc : p.cut) (hk : p.ks = [x, y]) : p.prune = if (x.hasP || y.hasP) = true then .mk p.op p.at_ 0 false [x.prune, y.prune] else .zero := by
  cases p; simp only [Plan.ks] at hk; subst hk; unfold Plan.cut at hc; simp only [Plan.op] at hc; rw [Plan.prune.eq_def]; simp only [if_pos hc, Plan.op, Plan.at_]
theorem Plan.prune_leaf {p : Plan} (hc : ¬ p.cut) : p.prune = p := by
  cases p; unfold Plan.cut at hc; simp only [Plan.op] at hc; rw [Plan.prune.eq_def]; simp only [if_neg hc]

theorem Plan.noP_places : ∀ (p : Plan), p.wf = true → p.hasP = false → ∀ b, p.places b = [] :=
  Plan.wf_ind (fun p hw hc h b => by
    rw [Plan.hasP_leaf hc] at h
    unfold Plan.places
    rw [Plan.parts_leaf hc]
    simp [placeOf, of_decide_eq_false h]) (fun p x y hw hc hk hx hy ix iy h b => by
    rw [Plan.hasP_cut hc hk, Bool.or_eq_false_iff] at h
    have h1 : placeOf (p, b) = none := by unfold placeOf; rw [if_neg]; simp only; unfold Plan.cut at hc; omega
    have jx := ix h.1
    have jy := iy h.2
    unfold Plan.places at *
    rw [Plan.parts_cut hc hk, List.filterMap_cons, h1, List.filterMap_append, jx, jy]; rfl)
theorem Plan.zero_places (b : Box) : Plan.zero.places b = [] := Plan.noP_places _ Plan.zero_wf (by decide) b

/-- All that is told of a pruned plan. -/
theorem Plan.prune_all (k : Work) : ∀ (p : Plan), p.wf = true → p.prune.wf = true ∧ p.prune.nodes ≤ p.nodes ∧ (∀ w h, p.fits k w h = true → p.prune.fits k w h = true) ∧ ∀ b : Box, p.prune.places b = p.places b :=
  Plan.wf_ind (fun p hw hc => by
    rw [Plan.prune_leaf hc]
    exact ⟨hw, Nat.le_refl _, fun _ _ h => h, fun _ => rfl⟩) (fun p x y hw hc hk hx hy ix iy => by
    obtain ⟨w1, n1, f1, m1⟩ := ix
    obtain ⟨w2, n2, f2, m2⟩ := iy
    have hpt := Plan.cut_pt hw hc
    have hn := Plan.nodes_two hk
    rw [Plan.prune_cut hc hk]
    split
    · generalize hq : Plan.mk p.op p.at_ 0 false [x.prune, y.prune] = q
      have qo : q.op = p.op := by rw [← hq]; rfl
      have qa : q.at_ = p.at_ := by rw [← hq]; rfl
      have qk : q.ks = [x.prune, y.prune] := by rw [← hq]; rfl
      have qc : q.cut := by unfold Plan.cut at *; rw [qo]; exact hc
      refine ⟨Plan.wf_mk qc qk (by rw [← hq]; rfl) (by rw [← hq]; rfl) w1 w2, by rw [Plan.nodes_two qk, hn]; omega, fun w h hf => ?_, fun b => ?_⟩
      · rcases hc with h2 | h3
        · rw [Plan.fits_down _ p _ _ _ _ h2 hk] at hf
          rw [Plan.fits_down _ q _ _ _ _ (qo.trans h2) qk, qa]
          simp only [Bool.and_eq_true] at *
          exact ⟨⟨hf.1.1, f1 _ _ hf.1.2⟩, f2 _ _ hf.2⟩
        · rw [Plan.fits_across _ p _ _ _ _ h3 hk] at hf
          rw [Plan.fits_across _ q _ _ _ _ (qo.trans h3) qk, qa]
          simp only [Bool.and_eq_true] at *
          exact ⟨⟨hf.1.1, f1 _ _ hf.1.2⟩, f2 _ _ hf.2⟩
      · have h1 : placeOf (p, b) = none := by unfold placeOf; rw [if_neg]; simp only; unfold Plan.cut at hc; omega
        have h2 : placeOf (q, b) = none := by unfold placeOf; rw [if_neg]; simp only; unfold Plan.cut at qc; omega
        have hs : q.split b = p.split b := by unfold Plan.split; rw [qo, qa]
        unfold Plan.places at *
        rw [Plan.parts_cut qc qk, Plan.parts_cut hc hk, List.filterMap_cons, List.filterMap_cons, h1, h2, List.filterMap_append, List.filterMap_append, hs, m1, m2]
    · rename_i hh
      have hh' : (x.hasP || y.hasP) = false := by simpa using hh
      refine ⟨Plan.zero_wf, by rw [Plan.zero_nodes]; exact p.nodes_pos, fun w h hf => Plan.fits_else k _ _ _ (by decide) (by decide) (by decide), fun b => ?_⟩
      rw [Plan.zero_places, Plan.noP_places p hw (by rw [Plan.hasP_cut hc hk, hh'])])

theorem Place.eq_c (a b : Place) : eqA [.int, .bool, .int, .int, .int, .int] a.cs b.cs = some (decide (a = b)) := by
  cases a with | mk p t b1 =>
  cases b with | mk p' t' b2 =>
  cases b1; cases b2
  simp only [Place.cs, eqA, Option.map_some, Place.mk.injEq, Box.mk.injEq, Bool.and_true]
  congr 1
  simp only [Bool.decide_and, Bool.and_assoc]
theorem Place.eq_self (a : Place) : eqA [.int, .bool, .int, .int, .int, .int] a.cs a.cs = some true := by rw [Place.eq_c]; simp
theorem DKa0 : type_of% @Place.eq_self := @Place.eq_self

end Go.Pc
