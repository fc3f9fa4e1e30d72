/- Rows of panes on sheets, in plain words: what is laid fits, and it may be told by taking rows off the order. -/
import Derived.Test.YtkcpcmobmalijaaBsd
set_option linter.unusedSimpArgs false
set_option linter.unusedVariables false
namespace Go.Pc
open Go Go.Proofs

def sumI (f : Int → Int) (l : List Int) : Int := (l.map f).sum
theorem sumI_cons (f : Int → Int) (i : Int) (l : List Int) : sumI f (i :: l) = f i + sumI f l := by simp [sumI]
theorem sumI_snoc (f : Int → Int) (i : Int) (l : List Int) : sumI f (l ++ [i]) = sumI f l + f i := by simp [sumI]
def wOf (k : Work) (i : Int) : Int := (paneA k i).W
def hOf (k : Work) (i : Int) : Int := (paneA k i).H
def highR (k : Work) (r : List Int) : Int := hOf k (r.headD 0)
/-- A row that fits. -/
structure RowOk (k : Work) (r : List Int) : Prop where
  ne : r ≠ []
  idx : ∀ i ∈ r, 0 ≤ i ∧ i < (k.Ps.length : Int)
  high : ∀ i ∈ r, hOf k i ≤ highR k r
  wide : sumI (wOf k) r ≤ k.W
structure SheetOk (k : Work) (t : List (List Int)) : Prop where
  ne : t ≠ []
  rows : ∀ r ∈ t, RowOk k r
  high : (t.map (highR k)).sum ≤ k.H

theorem RowOk.single {k : Work} (hk : plainW k) {i : Int} (hi : 0 ≤ i ∧ i < (k.Ps.length : Int)) : RowOk k [i] :=
  ⟨by simp, by simpa using hi, by simp [highR], by simpa [sumI, wOf] using (hk.pane hi).1.2⟩

structure ShS.Fine (k : Work) (P : List Int) (s : ShS) : Prop where
  emp : s.row = [] → s.done = [] ∧ s.rows = [] ∧ s.right = 0 ∧ s.above = 0
  flat : s.all.flatten.flatten = P
  dn : ∀ t ∈ s.done, SheetOk k t
  rw : ∀ r ∈ s.rows, RowOk k r
  rk : s.row ≠ [] → RowOk k s.row ∧ s.right = k.W - sumI (wOf k) s.row ∧ s.above = k.H - ((s.rows ++ [s.row]).map (highR k)).sum ∧ 0 ≤ s.right ∧ 0 ≤ s.above
theorem ShS.zero_fine (k : Work) : ShS.zero.Fine k [] := ⟨fun _ => ⟨rfl, rfl, rfl, rfl⟩, rfl, by simp [ShS.zero], by simp [ShS.zero], fun h => absurd rfl h⟩
theorem ShS.Fine.all {k : Work} {P : List Int} {s : ShS} (h : s.Fine k P) : ∀ t ∈ s.all, SheetOk k t := by
  intro t ht
  unfold ShS.all at ht
  split at ht
  · exact h.dn t ht
  · rename_i hr
    obtain ⟨a1, a2, a3, a4, a5⟩ := h.rk hr
    rcases List.mem_append.1 ht with ht | ht
    · exact h.dn t ht
    · rw [List.mem_singleton.1 ht]
      refine ⟨by simp, fun r hr => ?_, by omega⟩
      rcases List.mem_append.1 hr with hr | hr
      · exact h.rw r hr
      · rw [List.mem_singleton.1 hr]; exact a1
theorem ShS.step_fine {k : Work} (hk : plainW k) {P : List Int} {s : ShS} (h : s.Fine k P) {i : Int} (hi : 0 ≤ i ∧ i < (k.Ps.length : Int)) (hP : ∀ x ∈ P, hOf k i ≤ hOf k x) : (s.step k i).Fine k (P ++ [i]) := by
  obtain ⟨h1, h2, _⟩ := hk.pane hi
  have hall := h.all
  obtain ⟨e, fl, dn, rw', rk⟩ := h
  unfold ShS.step
  by_cases c1 : (paneA k i).W ≤ s.right
  · rw [if_pos c1]
    have hne : s.row ≠ [] := fun hh => by have := (e hh).2.2.1; omega
    obtain ⟨a1, a2, a3, a4, a5⟩ := rk hne
    have efl : ShS.all { s with row := s.row ++ [i], right := s.right - (paneA k i).W } = s.done ++ [s.rows ++ [s.row ++ [i]]] := by unfold ShS.all; rw [if_neg (by simp)]
    have efl0 : s.all = s.done ++ [s.rows ++ [s.row]] := by unfold ShS.all; rw [if_neg hne]
    have hh : highR k (s.row ++ [i]) = highR k s.row := by
      cases hr : s.row with
      | nil => exact absurd hr hne
      | cons a b => simp [highR]
    refine ⟨fun hh => by simp at hh, ?_, dn, rw', fun _ => ⟨⟨by simp, fun x hx => ?_, fun x hx => ?_, ?_⟩, ?_, ?_, by simp only []; omega, a5⟩⟩
    · rw [efl, ← fl, efl0]; simp
    · rcases List.mem_append.1 hx with hx | hx
      · exact a1.idx x hx
      · rw [List.mem_singleton.1 hx]; exact hi
    · rw [hh]
      rcases List.mem_append.1 hx with hx | hx
      · exact a1.high x hx
      · rw [List.mem_singleton.1 hx]
        refine hP _ ?_
        rw [← fl, efl0]
        cases hr : s.row with
        | nil => exact absurd hr hne
        | cons a b => simp
    · simp only []
      rw [sumI_snoc]; unfold wOf at *; omega
    · simp only []
      rw [sumI_snoc]; unfold wOf at *; omega
    · simp only []
      rw [a3]; simp [hh]
  · rw [if_neg c1]
    by_cases c2 : (paneA k i).H ≤ s.above
    · rw [if_pos c2]
      have hne : s.row ≠ [] := fun hh => by have := (e hh).2.2.2; omega
      obtain ⟨a1, a2, a3, a4, a5⟩ := rk hne
      have efl : ShS.all { s with rows := s.rows ++ [s.row], row := [i], right := k.W - (paneA k i).W, above := s.above - (paneA k i).H } = s.done ++ [s.rows ++ [s.row] ++ [[i]]] := by unfold ShS.all; rw [if_neg (by simp)]
      have efl0 : s.all = s.done ++ [s.rows ++ [s.row]] := by unfold ShS.all; rw [if_neg hne]
      refine ⟨fun hh => by simp at hh, ?_, dn, fun r hr => ?_, fun _ => ⟨.single hk hi, by simp [sumI, wOf], ?_, by simp only []; omega, by simp only []; omega⟩⟩
      · rw [efl, ← fl, efl0]; simp
      · rcases List.mem_append.1 hr with hr | hr
        · exact rw' r hr
        · rw [List.mem_singleton.1 hr]; exact a1
      · simp only []
        rw [a3]
        simp [highR, hOf]
        omega
    · rw [if_neg c2]
      have efl : ShS.all ⟨s.all, [], [i], k.W - (paneA k i).W, k.H - (paneA k i).H⟩ = s.all ++ [[[i]]] := by rw [ShS.all, if_neg (by simp)]; rfl
      refine ⟨fun hh => by simp at hh, ?_, hall, by simp, fun _ => ⟨.single hk hi, by simp [sumI, wOf], by simp [highR, hOf], by simp only []; omega, by simp only []; omega⟩⟩
      rw [efl, ← fl]; simp

theorem srt_high {k : Work} {o : List Int} (h : srt (cmpS k) o) : o.Pairwise fun x y => hOf k y ≤ hOf k x := by
  refine List.Pairwise.imp (fun {a b} hab => ?_) h
  unfold cmpS at hab
  unfold hOf
  split at hab <;> omega
theorem shRun_fine {k : Work} (hk : plainW k) {o : List Int} (ho : OrdS k o) : ∀ j, j ≤ o.length → (shRun k (o.take j)).Fine k (o.take j)
  | 0, _ => by rw [List.take_zero]; exact ShS.zero_fine k
  | j + 1, hj => by
    obtain ⟨i, hi⟩ := get_lt (l := o) (i := j) (by omega)
    rw [shRun_next k hi, show o.take (j + 1) = o.take j ++ [i] by rw [List.take_add_one, hi]; rfl]
    refine ShS.step_fine hk (shRun_fine hk ho j (by omega)) (ho.mem.1 (List.mem_of_getElem? hi)) fun x hx => ?_
    obtain ⟨a, ha, rfl⟩ := List.mem_iff_getElem.1 hx
    have haj : a < j ∧ a < o.length := by simp at ha; omega
    have := List.pairwise_iff_getElem.1 (srt_high ho.2) a j haj.2 (by omega) haj.1
    rw [List.getElem_take]
    rwa [(List.getElem?_eq_some_iff.1 hi).2] at this
theorem shRun_all {k : Work} (hk : plainW k) {o : List Int} (ho : OrdS k o) : (shRun k o).all.flatten.flatten = o ∧ ∀ t ∈ (shRun k o).all, SheetOk k t := by
  have := shRun_fine hk ho o.length (Nat.le_refl _)
  rw [List.take_length] at this
  exact ⟨this.flat, this.all⟩

end Go.Pc
