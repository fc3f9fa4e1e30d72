/- Plans that are found from places: the sides of a cut, plain. -/
import Derived.Test.YtokghjmmdnhbeaaZd
set_option linter.unusedSimpArgs false
set_option linter.unusedVariables false
namespace Go.Pc
open Go Go.Proofs

theorem inside_lo {q : Place} {b : Box} {op a : Int} (hq : q.box.inside b) (h1 : b.fr op < a) (h2 : a < b.to_ op) : q.box.inside (b.lo op a) ↔ q.highE op ≤ a := by
  unfold Box.inside Box.ok at *
  unfold Box.fr at h1
  unfold Box.to_ at h2
  unfold Box.lo Place.highE
  by_cases c : op = 3
  · simp only [c, if_true] at *; constructor <;> intro h <;> omega
  · simp only [c, if_false] at *; constructor <;> intro h <;> omega
theorem inside_hi {q : Place} {b : Box} {op a : Int} (hq : q.box.inside b) (h1 : b.fr op < a) (h2 : a < b.to_ op) (hc : ¬ crossE op a q) (hn : ¬ q.highE op ≤ a) : q.box.inside (b.hi op a) := by
  unfold crossE at hc
  unfold Box.inside Box.ok at *
  unfold Box.fr at h1
  unfold Box.to_ at h2
  unfold Box.hi
  unfold Place.lowE Place.highE at hc
  unfold Place.highE at hn
  by_cases c : op = 3
  · simp only [c, if_true] at *; omega
  · simp only [c, if_false] at *; omega
theorem inside_InG {l : List Place} {b : Box} (h : ∀ q ∈ l, q.box.inside b) : InG l b := fun q hq op => by
  have := h q hq
  unfold Box.inside Box.ok at this
  unfold Box.fr Box.to_ Place.lowE Place.highE
  by_cases c : op = 3
  · simp only [c, if_true]; omega
  · simp only [c, if_false]; omega
theorem lo_ok {b : Box} {op a : Int} (hb : b.ok) (h1 : b.fr op < a) (h2 : a < b.to_ op) : (b.lo op a).ok ∧ (b.hi op a).ok ∧ (b.lo op a).W + (b.lo op a).H < b.W + b.H ∧ (b.hi op a).W + (b.hi op a).H < b.W + b.H := by
  unfold Box.ok at *
  unfold Box.fr at h1
  unfold Box.to_ at h2
  unfold Box.lo Box.hi
  by_cases c : op = 3
  · simp only [c, if_true] at *; omega
  · simp only [c, if_false] at *; omega
/-- Places of a valid plan can be cut. -/
theorem Plan.gu (k : Work) : ∀ (p : Plan), p.wf = true → ∀ b : Box, b.sane → p.fits k b.W b.H = true → Gu (p.places b) b :=
  Plan.wf_ind (fun p hw hc b hs hf => by
    unfold Plan.places
    rw [Plan.parts_leaf hc]
    by_cases ho : p.op = 1
    · have e : [(p, b)].filterMap placeOf = [⟨p.pa, p.tu, b⟩] := by simp [placeOf, ho]
      rw [e]; exact .one _ b rfl
    · have e : [(p, b)].filterMap placeOf = [] := by simp [placeOf, ho]
      rw [e]; exact .nil b) (fun p x y hw hc hk hx hy ix iy b hs hf => by
    obtain ⟨f1, f2, c1, c2, c3⟩ := Plan.fits_cut hc hk hf
    have hn : placeOf (p, b) = none := by unfold placeOf; rw [if_neg]; simp only; unfold Plan.cut at hc; omega
    have e : p.places b = x.places (p.split b).1 ++ y.places (p.split b).2 := by
      unfold Plan.places
      rw [Plan.parts_cut hc hk, List.filterMap_cons, hn, List.filterMap_append]
    have hs' := hs
    unfold Box.sane at hs'
    have e1 : (p.split b).1 = b.lo p.op (b.fr p.op + p.at_) := by
      unfold Plan.split Box.lo Box.fr
      rcases hc with h | h
      · rw [if_pos h, if_neg (by omega), if_neg (by omega)]; apply box_ext <;> simp only [] <;> omega
      · rw [if_neg (by omega), if_pos h, if_pos h]; apply box_ext <;> simp only [] <;> omega
    have e2 : (p.split b).2 = b.hi p.op (b.fr p.op + p.at_) := by
      unfold Plan.split Box.hi Box.fr
      rcases hc with h | h
      · rw [if_pos h, if_neg (by omega), if_neg (by omega)]; apply box_ext <;> simp only [] <;> omega
      · rw [if_neg (by omega), if_pos h, if_pos h]; apply box_ext <;> simp only [] <;> omega
    have g1 : b.fr p.op < b.fr p.op + p.at_ := by omega
    have g2 : b.fr p.op + p.at_ < b.to_ p.op := by
      unfold Box.fr Box.to_
      rcases hc with h | h
      · have := c2 h; rw [if_neg (by omega), if_neg (by omega)]; omega
      · have := c3 (by omega); rw [if_pos h, if_pos h]; omega
    rw [e1] at f1 e
    rw [e2] at f2 e
    generalize b.fr p.op + p.at_ = a at *
    have s1 : (b.lo p.op a).sane ∧ (b.hi p.op a).sane := by
      unfold Box.sane Box.lo Box.hi
      unfold Box.fr at g1
      unfold Box.to_ at g2
      by_cases c : p.op = 3
      · simp only [c, if_true] at *; omega
      · simp only [c, if_false] at *; omega
    have i1 := Plan.places_in k x hx _ s1.1 f1
    have i2 := Plan.places_in k y hy _ s1.2 f2
    have l1 : ∀ q ∈ x.places (b.lo p.op a), q.highE p.op ≤ a := fun q hq => by
      have := (i1 q hq).2
      unfold Box.inside Box.lo at this
      unfold Place.highE
      by_cases c : p.op = 3
      · simp only [c, if_true] at *; omega
      · simp only [c, if_false] at *; omega
    have l2 : ∀ q ∈ y.places (b.hi p.op a), a ≤ q.lowE p.op ∧ ¬ q.highE p.op ≤ a := fun q hq => by
      have := (i2 q hq).2
      unfold Box.inside Box.hi Box.ok at this
      unfold Place.lowE Place.highE
      by_cases c : p.op = 3
      · simp only [c, if_true] at *; omega
      · simp only [c, if_false] at *; omega
    have jl : lows p.op a (p.places b) = x.places (b.lo p.op a) := by
      rw [e]
      unfold lows
      rw [List.filter_append, List.filter_eq_self.2 (fun q hq => decide_eq_true (l1 q hq)), List.filter_eq_nil_iff.2 (fun q hq => by simpa using (l2 q hq).2), List.append_nil]
    have jh : highs p.op a (p.places b) = y.places (b.hi p.op a) := by
      rw [e]
      unfold highs
      rw [List.filter_append, List.filter_eq_nil_iff.2 (fun q hq => by simpa using l1 q hq), List.filter_eq_self.2 (fun q hq => by simpa using (l2 q hq).2), List.nil_append]
    refine .cut p.op a _ b g1 g2 (fun q hq hcr => ?_) (by rw [jl]; exact ix _ s1.1 f1) (by rw [jh]; exact iy _ s1.2 f2)
    unfold crossE at hcr
    rw [e] at hq
    rcases List.mem_append.1 hq with hq | hq
    · have := l1 q hq; omega
    · have := (l2 q hq).1; omega)


/-- Left and right exchanged. -/
def Box.mirW (w : Int) (b : Box) : Box := ⟨w - b.X - b.W, b.Y, b.W, b.H⟩
def Place.mirW (w : Int) (q : Place) : Place := ⟨q.pa, q.tu, q.box.mirW w⟩
theorem Gu.mirW (w : Int) {l : List Place} {b : Box} (h : Gu l b) : (∀ q ∈ l, 1 ≤ q.box.W) → Gu (l.map (Place.mirW w)) (b.mirW w) := by
  induction h with
  | nil b => exact fun _ => .nil _
  | one q b hb => exact fun _ => .one _ _ (by subst hb; rfl)
  | cut op a l b g1 g2 g3 gl gh il ih =>
    intro hw
    have il := il fun q hq => hw q (lows_sub hq)
    have ih := ih fun q hq => hw q (highs_sub hq)
    by_cases ho : op = 3
    · subst ho
      have e1 : lows 3 a (l.map (Place.mirW w)) = (lows 3 a l).map (Place.mirW w) := by
        unfold lows; rw [List.filter_map]; rfl
      have e2 : highs 3 a (l.map (Place.mirW w)) = (highs 3 a l).map (Place.mirW w) := by
        unfold highs; rw [List.filter_map]; rfl
      refine .cut 3 a _ _ g1 g2 (fun q hq => ?_) (by rw [e1]; exact il) (by rw [e2]; exact ih)
      obtain ⟨q0, h0, rfl⟩ := List.mem_map.1 hq
      exact g3 q0 h0
    · have eh : ∀ q : Place, q.highE op = q.box.X + q.box.W := fun q => by unfold Place.highE; rw [if_neg ho]
      have el : ∀ q : Place, q.lowE op = q.box.X := fun q => by unfold Place.lowE; rw [if_neg ho]
      have key : ∀ q ∈ l, (decide ((q.mirW w).highE op ≤ w - a) = !decide (q.highE op ≤ a)) := fun q hq => by
        have h1 := g3 q hq
        have h2 := hw q hq
        unfold crossE at h1
        rw [eh, el] at h1
        rw [eh, eh]
        unfold Place.mirW Box.mirW
        simp only
        by_cases c : q.box.X + q.box.W ≤ a
        · rw [decide_eq_true c, decide_eq_false (by omega)]; rfl
        · rw [decide_eq_false c, decide_eq_true (by omega)]; rfl
      have e1 : lows op (w - a) (l.map (Place.mirW w)) = (highs op a l).map (Place.mirW w) := by
        unfold lows highs; rw [List.filter_map]; congr 1
        exact List.filter_congr fun q hq => key q hq
      have e2 : highs op (w - a) (l.map (Place.mirW w)) = (lows op a l).map (Place.mirW w) := by
        unfold lows highs; rw [List.filter_map]; congr 1
        exact List.filter_congr fun q hq => by
          have := key q hq
          simp only [Function.comp] at *
          rw [this]; simp
      have b1 : (b.mirW w).lo op (w - a) = (b.hi op a).mirW w := by unfold Box.lo Box.hi Box.mirW; rw [if_neg ho, if_neg ho]; apply box_ext <;> simp only [] <;> omega
      have b2 : (b.mirW w).hi op (w - a) = (b.lo op a).mirW w := by unfold Box.lo Box.hi Box.mirW; rw [if_neg ho, if_neg ho]; apply box_ext <;> simp only [] <;> omega
      unfold Box.fr at g1
      unfold Box.to_ at g2
      rw [if_neg ho] at g1 g2
      refine .cut op (w - a) _ _ ?_ ?_ (fun q hq hc => ?_) (by rw [e1, b1]; exact ih) (by rw [e2, b2]; exact il)
      · unfold Box.fr Box.mirW; rw [if_neg ho]; simp only; omega
      · unfold Box.to_ Box.mirW; rw [if_neg ho]; simp only; omega
      · obtain ⟨q0, h0, rfl⟩ := List.mem_map.1 hq
        have h1 := g3 q0 h0
        unfold crossE at h1 hc
        rw [eh, el] at h1 hc
        unfold Place.mirW Box.mirW at hc
        simp only at hc
        omega

end Go.Pc
