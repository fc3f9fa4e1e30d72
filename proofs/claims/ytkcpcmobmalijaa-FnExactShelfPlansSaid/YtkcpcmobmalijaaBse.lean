/- Rows of panes on sheets, in plain words: what is laid fits, and it may be told by taking rows off the order. -/
import Derived.Test.YtkcpcmobmalijaaBsd
set_option linter.unusedSimpArgs false
set_option linter.unusedVariables false
namespace Go.Pc
open Go Go.Proofs

def sumI (f : Int → Int) (l : List Int) : Int := (l.map f).sum
theorem sumI_cons (f : Int → Int) (i : Int) (l : List Int) : sumI f (i :: l) = f i + sumI f l := by simp [sumI]
theorem sumI_snoc (f : Int → Int) (i : Int) (l : List Int) : sumI f (l ++ [i]) = sumI f l + f i := by simp [sumI]
def wOf (k : Work) (i : Int) : Int := (paneA k i).W
def hOf (k : Work) (i : Int) : Int := (paneA k i).H
def highR (k : Work) (r : List Int) : Int := hOf k (r.headD 0)
/-- A row that fits. -/
structure RowOk (k : Work) (r : List Int) : Prop where
  ne : r ≠ []
  idx : ∀ i ∈ r, 0 ≤ i ∧ i < (k.Ps.length : Int)
  high : ∀ i ∈ r, hOf k i ≤ highR k r
  wide : sumI (wOf k) r ≤ k.W
structure SheetOk (k : Work) (t : List (List Int)) : Prop where
  ne : t ≠ []
  rows : ∀ r ∈ t, RowOk k r
  high : (t.map (highR k)).sum ≤ k.H

theorem RowOk.single {k : Work} (hk : plainW k) {i : Int} (hi : 0 ≤ i ∧ i < (k.Ps.length : Int)) : RowOk k [i] :=
  ⟨by simp, by simpa using hi, by simp [highR], by simpa [sumI, wOf] using (hk.pane hi).1.2⟩

structure ShS.Fine (k : Work) (P : List Int) (s : ShS) : Prop where
  emp : s.row = [] → s.done = [] ∧ s.rows = [] ∧ s.right = 0 ∧ s.above = 0
  flat : s.all.flatten.flatten = P
  dn : ∀ t ∈ s.done, SheetOk k t
  rw : ∀ r ∈ s.rows, RowOk k r
  rk : s.row ≠ [] → RowOk k s.row ∧ s.right = k.W - sumI (wOf k) s.row ∧ s.above = k.H - ((s.rows ++ [s.row]).map (highR k)).sum ∧ 0 ≤ s.right ∧ 0 ≤ s.above
theorem ShS.zero_fine (k : Work) : ShS.zero.Fine k [] := ⟨fun _ => ⟨rfl, rfl, rfl, rfl⟩, rfl, by simp [ShS.zero], by simp [ShS.zero], fun h => absurd rfl h⟩
theorem ShS.Fine.all {k : Work} {P : List Int} {s : ShS} (h : s.Fine k P) : ∀ t ∈ s.all, SheetOk k t := by
  intro t ht
  unfold ShS.all at ht
  split at ht
  · exact h.dn t ht
  · rename_i hr
    obtain ⟨a1, a2, a3, a4, a5⟩ := h.rk hr
    rcases List.mem_append.1 ht with ht | ht
    · exact h.dn t ht
    · rw [List.mem_singleton.1 ht]
      refine ⟨by simp, fun r hr => ?_, by omega⟩
      rcases List.mem_append.1 hr with hr | hr
      · exact h.rw r hr
      · rw [List.mem_singleton.1 hr]; exact a1
theorem ShS.step_fine {k : Work} (hk : plainW k) {P : List Int} {s : ShS} (h : s.Fine k P) {i : Int} (hi : 0 ≤ i ∧ i < (k.Ps.length : Int)) (hP : ∀ x ∈ P, hOf k i ≤ hOf k x) : (s.step k i).Fine k (P ++ [i]) := by
  obtain ⟨h1, h2, _⟩ := hk.pane hi
  have hall := h.all
  obtain ⟨e, fl, dn, rw', rk⟩ := h
  unfold ShS.step
  by_cases c1 : (paneA k i).W ≤ s.right
  · rw [if_pos c1]
    have hne : s.row ≠ [] := fun hh => by have := (e hh).2.2.1; omega
    obtain ⟨a1, a2, a3, a4, a5⟩ := rk hne
    have efl : ShS.all { s with row := s.row ++ [i], right := s.right - (paneA k i).W } = s.done ++ [s.rows ++ [s.row ++ [i]]] := by unfold ShS.all; rw [if_neg (by simp)]
    have efl0 : s.all = s.done ++ [s.rows ++ [s.row]] := by unfold ShS.all; rw [if_neg hne]
    have hh : highR k (s.row ++ [i]) = highR k s.row := by
      cases hr : s.row with
      | nil => exact absurd hr hne
      | cons a b => simp [highR]
    refine ⟨fun hh => by simp at hh, ?_, dn, rw', fun _ => ⟨⟨by simp, fun x hx => ?_, fun x hx => ?_, ?_⟩, ?_, ?_, by simp only []; omega, a5⟩⟩
    · rw [efl, ← fl, efl0]; simp
    · rcases List.mem_append.1 hx with hx | hx
      · exact a1.idx x hx
      · rw [List.mem_singleton.1 hx]; exact hi
    · rw [hh]
      rcases List.mem_append.1 hx with hx | hx
      · exact a1.high x hx
      · rw [List.mem_singleton.1 hx]
        refine hP _ ?_
        rw [← fl, efl0]
        cases hr : s.row with
        | nil => exact absurd hr hne
        | cons a b => simp
    · simp only []
      rw [sumI_snoc]; unfold wOf at *; omega
    · simp only []
      rw [sumI_snoc]; unfold wOf at *; omega
    · simp only []
      rw [a3]; simp [hh]
  · rw [if_neg c1]
    by_cases c2 : (paneA k i).H ≤ s.above
    · rw [if_pos c2]
      have hne : s.row ≠ [] := fun hh => by have := (e hh).2.2.2; omega
      obtain ⟨a1, a2, a3, a4, a5⟩ := rk hne
      have efl : ShS.all { s with rows := s.rows ++ [s.row], row := [i], right := k.W - (paneA k i).W, above := s.above - (paneA k i).H } = s.done ++ [s.rows ++ [s.row] ++ [[i]]] := by unfold ShS.all; rw [if_neg (by simp)]
      have efl0 : s.all = s.done ++ [s.rows ++ [s.row]] := by unfold ShS.all; rw [if_neg hne]
      refine ⟨fun hh => by simp at hh, ?_, dn, fun r hr => ?_, fun _ => ⟨.single hk hi, by simp [sumI, wOf], ?_, by simp only []; omega, by simp only []; omega⟩⟩
      · rw [efl, ← fl, efl0]; simp
      · rcases List.mem_append.1 hr with hr | hr
        · exact rw' r hr
        · rw [List.mem_singleton.1 hr]; exact a1
      · simp only []
        rw [a3]
        simp [highR, hOf]
        omega
    · rw [if_neg c2]
      have efl : ShS.all ⟨s.all, [], [i], k.W - (paneA k i).W, k.H - (paneA k i).H⟩ = s.all ++ [[[i]]] := by rw [ShS.all, if_neg (by simp)]; rfl
      refine ⟨fun hh => by simp at hh, ?_, hall, by simp, fun _ => ⟨.single hk hi, by simp [sumI, wOf], by simp [highR, hOf], by simp only []; omega, by simp only []; omega⟩⟩
      rw [efl, ← fl]; simp

theorem srt_high {k : Work} {o : List Int} (h : srt (cmpS k) o) : o.Pairwise fun x y => hOf k y ≤ hOf k x := by
  refine List.Pairwise.imp (fun {a b} hab => ?_) h
  unfold cmpS at hab
  unfold hOf
  split at hab <;> omega
theorem shRun_fine {k : Work} (hk : plainW k) {o : List Int} (ho : OrdS k o) : ∀ j, j ≤ o.length → (shRun k (o.take j)).Fine k (o.take j)
  | 0, _ => by rw [List.take_zero]; exact ShS.zero_fine k
  | j + 1, hj => by
    obtain ⟨i, hi⟩ := get_lt (l := o) (i := j) (by omega)
    rw [shRun_next k hi, show o.take (j + 1) = o.take j ++ [i] by rw [List.take_add_one, hi]; rfl]
    refine ShS.step_fine hk (shRun_fine hk ho j (by omega)) (ho.mem.1 (List.mem_of_getElem? hi)) fun x hx => ?_
    obtain ⟨a, ha, rfl⟩ := List.mem_iff_getElem.1 hx
    have haj : a < j ∧ a < o.length := by simp at ha; omega
    have := List.pairwise_iff_getElem.1 (srt_high ho.2) a j haj.2 (by omega) haj.1
    rw [List.getElem_take]
    rwa [(List.getElem?_eq_some_iff.1 hi).2] at this
theorem shRun_all {k : Work} (hk : plainW k) {o : List Int} (ho : OrdS k o) : (shRun k o).all.flatten.flatten = o ∧ ∀ t ∈ (shRun k o).all, SheetOk k t := by
  have := shRun_fine hk ho o.length (Nat.le_refl _)
  rw [List.take_length] at this
  exact ⟨this.flat, this.all⟩

/-! ### Rows taken off the order -/

def rowTake (k : Work) : Int → List Int → List Int
  | _, [] => []
  | w, i :: o => if wOf k i ≤ w then i :: rowTake k (w - wOf k i) o else []
def rowsTake (k : Work) : Nat → Int → List Int → List (List Int)
  | 0, _, _ => []
  | _ + 1, _, [] => []
  | f + 1, h, i :: o => if hOf k i ≤ h then (i :: rowTake k (k.W - wOf k i) o) :: rowsTake k f (h - hOf k i) (o.drop (rowTake k (k.W - wOf k i) o).length) else []
def sheetsTake (k : Work) : Nat → List Int → List (List (List Int))
  | 0, _ => []
  | _ + 1, [] => []
  | f + 1, i :: o => rowsTake k (f + 1) k.H (i :: o) :: sheetsTake k f ((i :: o).drop (rowsTake k (f + 1) k.H (i :: o)).flatten.length)

theorem drop_one_add {α : Type} (i : α) (o : List α) (n : Nat) : List.drop (1 + n) (i :: o) = List.drop n o := by rw [Nat.add_comm]; rfl
theorem fold_all {k : Work} (hk : plainW k) : ∀ (o : List Int), (∀ i ∈ o, 0 ≤ i ∧ i < (k.Ps.length : Int)) → ∀ (f1 f2 : Nat) (s : ShS), o.length ≤ f1 → o.length ≤ f2 → s.row ≠ [] → 0 ≤ s.right → 0 ≤ s.above →
    (o.foldl (ShS.step k) s).all = s.done ++ (s.rows ++ (s.row ++ rowTake k s.right o) :: rowsTake k f1 s.above (o.drop (rowTake k s.right o).length)) ::
      sheetsTake k f2 ((o.drop (rowTake k s.right o).length).drop (rowsTake k f1 s.above (o.drop (rowTake k s.right o).length)).flatten.length)
  | [], _, f1, f2, s, _, _, hr, _, _ => by
    have h1 : ∀ f h, rowsTake k f h [] = [] := fun f h => by cases f <;> rfl
    have h2 : ∀ f, sheetsTake k f [] = [] := fun f => by cases f <;> rfl
    simp only [List.foldl_nil, rowTake, List.drop_nil, h1, h2, List.append_nil]
    unfold ShS.all
    rw [if_neg hr]
  | i :: o, hi, f1, f2, s, hf1, hf2, hr, p1, p2 => by
    have hii := hi i (by simp)
    have hio := fun j hj => hi j (List.mem_cons_of_mem _ hj)
    obtain ⟨q1, q2, _⟩ := hk.pane hii
    simp only [List.length_cons] at hf1 hf2
    rw [List.foldl_cons]
    by_cases c1 : (paneA k i).W ≤ s.right
    · have es : s.step k i = { s with row := s.row ++ [i], right := s.right - (paneA k i).W } := by unfold ShS.step; rw [if_pos c1]
      have et : rowTake k s.right (i :: o) = i :: rowTake k (s.right - (paneA k i).W) o := by rw [rowTake, if_pos (by exact c1)]; rfl
      rw [es, fold_all hk o hio f1 f2 { s with row := s.row ++ [i], right := s.right - (paneA k i).W } (by omega) (by omega) (by simp) (by simp only []; omega) p2, et]
      simp
    · have et : rowTake k s.right (i :: o) = [] := by rw [rowTake, if_neg (by exact c1)]
      rw [et]
      by_cases c2 : (paneA k i).H ≤ s.above
      · obtain ⟨f1, rfl⟩ : ∃ m, f1 = m + 1 := ⟨f1 - 1, by omega⟩
        have es : s.step k i = { s with rows := s.rows ++ [s.row], row := [i], right := k.W - (paneA k i).W, above := s.above - (paneA k i).H } := by unfold ShS.step; rw [if_neg c1, if_pos c2]
        rw [es, fold_all hk o hio f1 f2 _ (by omega) (by omega) (by simp) (by simp only []; omega) (by simp only []; omega)]
        simp only [List.length_nil, List.drop_zero, List.append_nil]
        rw [rowsTake, if_pos (by exact c2)]
        simp [wOf, hOf, List.drop_drop, drop_one_add]
      · obtain ⟨f2, rfl⟩ : ∃ m, f2 = m + 1 := ⟨f2 - 1, by omega⟩
        have es : s.step k i = ⟨s.all, [], [i], k.W - (paneA k i).W, k.H - (paneA k i).H⟩ := by unfold ShS.step; rw [if_neg c1, if_neg c2]
        have ea : s.all = s.done ++ [s.rows ++ [s.row]] := by unfold ShS.all; rw [if_neg hr]
        have e3 : rowsTake k f1 s.above (i :: o) = [] := by
          cases f1 with
          | zero => rfl
          | succ f1 => rw [rowsTake, if_neg (by exact c2)]
        rw [es, fold_all hk o hio f2 f2 _ (by omega) (by omega) (by simp) (by simp only []; omega) (by simp only []; omega)]
        simp only [List.length_nil, List.drop_zero, List.append_nil, e3, List.flatten_nil]
        rw [sheetsTake, rowsTake, if_pos (by exact q2.2), ea]
        simp [wOf, hOf, List.drop_drop, drop_one_add]

theorem shRun_take {k : Work} (hk : plainW k) {o : List Int} (hi : ∀ i ∈ o, 0 ≤ i ∧ i < (k.Ps.length : Int)) : (shRun k o).all = sheetsTake k o.length o := by
  cases o with
  | nil => rfl
  | cons i o =>
    obtain ⟨q1, q2, _⟩ := hk.pane (hi i (by simp))
    have es : ShS.zero.step k i = ⟨[], [], [i], k.W - (paneA k i).W, k.H - (paneA k i).H⟩ := by
      unfold ShS.step ShS.zero
      rw [if_neg (by simp only []; omega), if_neg (by simp only []; omega)]
      rfl
    unfold shRun
    rw [List.foldl_cons, es, fold_all hk o (fun j hj => hi j (List.mem_cons_of_mem _ hj)) o.length o.length _ (Nat.le_refl _) (Nat.le_refl _) (by simp) (by simp only []; omega) (by simp only []; omega)]
    simp only [List.length_cons]
    rw [sheetsTake, rowsTake, if_pos (by exact q2.2)]
    simp [wOf, hOf, List.drop_drop, drop_one_add]

theorem rowTake_sub (k : Work) : ∀ (w : Int) (o : List Int), ∃ t, o = rowTake k w o ++ t
  | _, [] => ⟨[], rfl⟩
  | w, i :: o => by
    rw [rowTake]
    split
    · obtain ⟨t, ht⟩ := rowTake_sub k (w - wOf k i) o
      exact ⟨t, by rw [List.cons_append, ← ht]⟩
    · exact ⟨_, rfl⟩
theorem rowTake_len (k : Work) (w : Int) (o : List Int) : (rowTake k w o).length ≤ o.length := by
  obtain ⟨t, ht⟩ := rowTake_sub k w o
  have := congrArg List.length ht
  rw [List.length_append] at this
  omega
theorem rowsTake_len (k : Work) : ∀ (f : Nat) (h : Int) (o : List Int), (rowsTake k f h o).flatten.length ≤ o.length
  | 0, _, _ => by simp [rowsTake]
  | _ + 1, _, [] => by simp [rowsTake]
  | f + 1, h, i :: o => by
    rw [rowsTake]
    split
    · have h1 := rowTake_len k (k.W - wOf k i) o
      have h2 := rowsTake_len k f (h - hOf k i) (o.drop (rowTake k (k.W - wOf k i) o).length)
      rw [List.length_drop] at h2
      rw [List.flatten_cons, List.length_append, List.length_cons, List.length_cons]
      omega
    · simp
theorem rowTake_zero {k : Work} (hk : plainW k) {o : List Int} (hi : ∀ i ∈ o, 0 ≤ i ∧ i < (k.Ps.length : Int)) : rowTake k 0 o = [] := by
  cases o with
  | nil => rfl
  | cons i o =>
    have := (hk.pane (hi i (by simp))).1.1
    rw [rowTake, if_neg (by unfold wOf; omega)]
theorem rowsTake_zero {k : Work} (hk : plainW k) {o : List Int} (hi : ∀ i ∈ o, 0 ≤ i ∧ i < (k.Ps.length : Int)) (f : Nat) : rowsTake k f 0 o = [] := by
  cases f with
  | zero => rfl
  | succ f =>
    cases o with
    | nil => rfl
    | cons i o =>
      have := (hk.pane (hi i (by simp))).2.1.1
      rw [rowsTake, if_neg (by unfold hOf; omega)]

end Go.Pc
