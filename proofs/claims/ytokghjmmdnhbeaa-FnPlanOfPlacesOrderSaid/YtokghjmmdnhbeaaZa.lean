/- Places that come of cuts from edge to edge: plain. -/
import Derived.Test.YtokghjmmdnhbeaaWb
import Derived.Test.YtokghjmmdnhbeaaMl
set_option linter.unusedSimpArgs false
set_option linter.unusedVariables false
namespace Go.Pc
open Go Go.Proofs

def Box.fr (op : Int) (b : Box) : Int := if op = 3 then b.Y else b.X
def Box.to_ (op : Int) (b : Box) : Int := if op = 3 then b.Y + b.H else b.X + b.W
def Box.lo (op at_ : Int) (b : Box) : Box := if op = 3 then ⟨b.X, b.Y, b.W, at_ - b.Y⟩ else ⟨b.X, b.Y, at_ - b.X, b.H⟩
def Box.hi (op at_ : Int) (b : Box) : Box := if op = 3 then ⟨b.X, at_, b.W, b.Y + b.H - at_⟩ else ⟨at_, b.Y, b.X + b.W - at_, b.H⟩
def lows (op at_ : Int) (l : List Place) : List Place := l.filter fun q => decide (q.highE op ≤ at_)
def highs (op at_ : Int) (l : List Place) : List Place := l.filter fun q => !decide (q.highE op ≤ at_)

/-- Places that can be cut from glass. -/
inductive Gu : List Place → Box → Prop
  | nil (b : Box) : Gu [] b
  | one (q : Place) (b : Box) : q.box = b → Gu [q] b
  | cut (op at_ : Int) (l : List Place) (b : Box) : b.fr op < at_ → at_ < b.to_ op → (∀ q ∈ l, ¬ crossE op at_ q) → Gu (lows op at_ l) (b.lo op at_) → Gu (highs op at_ l) (b.hi op at_) → Gu l b

theorem lows_comm (op at_ op' at' : Int) (l : List Place) : lows op at_ (lows op' at' l) = lows op' at' (lows op at_ l) := by
  unfold lows; rw [List.filter_filter, List.filter_filter]; congr 1; funext q; rw [Bool.and_comm]
theorem lows_highs (op at_ op' at' : Int) (l : List Place) : lows op at_ (highs op' at' l) = highs op' at' (lows op at_ l) := by
  unfold lows highs; rw [List.filter_filter, List.filter_filter]; congr 1; funext q; rw [Bool.and_comm]
theorem highs_comm (op at_ op' at' : Int) (l : List Place) : highs op at_ (highs op' at' l) = highs op' at' (highs op at_ l) := by
  unfold highs; rw [List.filter_filter, List.filter_filter]; congr 1; funext q; rw [Bool.and_comm]
theorem lows_lows {op a c : Int} (h : a ≤ c) (l : List Place) : lows op a (lows op c l) = lows op a l := by
  unfold lows; rw [List.filter_filter]; congr 1; funext q
  by_cases hq : q.highE op ≤ a
  · have : q.highE op ≤ c := by omega
    simp [hq, this]
  · simp [hq]
theorem highs_highs {op a c : Int} (h : a ≤ c) (l : List Place) : highs op c (highs op a l) = highs op c l := by
  unfold highs; rw [List.filter_filter]; congr 1; funext q
  by_cases hq : q.highE op ≤ c
  · simp [hq]
  · have : ¬ q.highE op ≤ a := by omega
    simp [hq, this]
theorem lows_sub {op a : Int} {l : List Place} {q : Place} (h : q ∈ lows op a l) : q ∈ l := (List.mem_filter.1 h).1
theorem highs_sub {op a : Int} {l : List Place} {q : Place} (h : q ∈ highs op a l) : q ∈ l := (List.mem_filter.1 h).1

theorem box_ext {a b : Box} (h1 : a.X = b.X) (h2 : a.Y = b.Y) (h3 : a.W = b.W) (h4 : a.H = b.H) : a = b := by cases a; cases b; simp_all

/-- Each cut that crosses no place may be the first. -/
theorem Gu.restrict {l : List Place} {b : Box} (h : Gu l b) : ∀ {o c : Int}, b.fr o < c → c < b.to_ o → (∀ q ∈ l, ¬ crossE o c q) → Gu (lows o c l) (b.lo o c) ∧ Gu (highs o c l) (b.hi o c) := by
  induction h with
  | nil b => exact fun _ _ _ => ⟨.nil _, .nil _⟩
  | one q b hb =>
    intro o c h1 h2 h3
    refine absurd ?_ (h3 q (by simp))
    subst hb
    unfold crossE Place.lowE Place.highE
    unfold Box.fr at h1
    unfold Box.to_ at h2
    by_cases ho : o = 3
    · rw [if_pos ho] at *; rw [if_pos ho]; exact ⟨h1, h2⟩
    · rw [if_neg ho] at *; rw [if_neg ho]; exact ⟨h1, h2⟩
  | cut op at_ l b g1 g2 g3 gl gh il ih =>
    intro o c h1 h2 h3
    have n1 : ∀ q ∈ lows op at_ l, ¬ crossE o c q := fun q hq => h3 q (lows_sub hq)
    have n2 : ∀ q ∈ highs op at_ l, ¬ crossE o c q := fun q hq => h3 q (highs_sub hq)
    have m1 : ∀ q ∈ lows o c l, ¬ crossE op at_ q := fun q hq => g3 q (lows_sub hq)
    have m2 : ∀ q ∈ highs o c l, ¬ crossE op at_ q := fun q hq => g3 q (highs_sub hq)
    by_cases hoo : (o = 3 ↔ op = 3)
    · -- the same side
      have el : ∀ a, lows o a = lows op a := fun a => by
        unfold lows; funext l; congr 1; funext q; unfold Place.highE; simp only [hoo]
      have eh : ∀ a, highs o a = highs op a := fun a => by
        unfold highs; funext l; congr 1; funext q; unfold Place.highE; simp only [hoo]
      have eb : ∀ a (b : Box), b.lo o a = b.lo op a := fun a b => by unfold Box.lo; simp only [hoo]
      have ebh : ∀ a (b : Box), b.hi o a = b.hi op a := fun a b => by unfold Box.hi; simp only [hoo]
      have ef : ∀ b : Box, b.fr o = b.fr op := fun b => by unfold Box.fr; simp only [hoo]
      have et : ∀ b : Box, b.to_ o = b.to_ op := fun b => by unfold Box.to_; simp only [hoo]
      have ec : ∀ q a, crossE o a q = crossE op a q := fun q a => by unfold crossE Place.lowE Place.highE; simp only [hoo]
      rw [ef] at h1; rw [et] at h2
      rw [el, eh, eb, ebh]
      simp only [ec, el, eh, eb, ebh, ef, et] at *
      have f1 : (b.lo op at_).fr op = b.fr op := by unfold Box.lo Box.fr; split <;> rfl
      have f2 : (b.lo op at_).to_ op = at_ := by unfold Box.lo Box.to_; split <;> (simp only; omega)
      have f3 : (b.hi op at_).fr op = at_ := by unfold Box.hi Box.fr; split <;> rfl
      have f4 : (b.hi op at_).to_ op = b.to_ op := by unfold Box.hi Box.to_; split <;> (simp only; omega)
      rcases Int.lt_trichotomy c at_ with hlt | heq | hgt
      · have hI := @il op c
        try simp only [ec, el, eh, eb, ebh, ef, et] at hI
        obtain ⟨i1, i2⟩ := hI (by rw [f1]; exact h1) (by rw [f2]; exact hlt) n1
        rw [lows_lows (by omega)] at i1
        have b1 : (b.lo op at_).lo op c = b.lo op c := by unfold Box.lo; split <;> rfl
        have b2 : (b.lo op at_).hi op c = (b.hi op c).lo op at_ := by unfold Box.lo Box.hi; split <;> (apply box_ext <;> simp only [] <;> omega)
        have b3 : (b.hi op c).hi op at_ = b.hi op at_ := by unfold Box.hi; split <;> (apply box_ext <;> simp only [] <;> omega)
        rw [b1] at i1
        rw [b2] at i2
        refine ⟨i1, .cut op at_ _ _ ?_ ?_ m2 ?_ ?_⟩
        · have : (b.hi op c).fr op = c := by unfold Box.hi Box.fr; split <;> rfl
          rw [this]; exact hlt
        · have : (b.hi op c).to_ op = b.to_ op := by unfold Box.hi Box.to_; split <;> (simp only; omega)
          rw [this]; exact g2
        · rw [lows_highs]; exact i2
        · rw [highs_highs (by omega), b3]; exact gh
      · subst heq
        exact ⟨gl, gh⟩
      · have hI := @ih op c
        try simp only [ec, el, eh, eb, ebh, ef, et] at hI
        obtain ⟨i1, i2⟩ := hI (by rw [f3]; exact hgt) (by rw [f4]; exact h2) n2
        rw [highs_highs (by omega)] at i2
        have b1 : (b.hi op at_).hi op c = b.hi op c := by unfold Box.hi; split <;> (apply box_ext <;> simp only [] <;> omega)
        have b2 : (b.lo op c).hi op at_ = (b.hi op at_).lo op c := by unfold Box.lo Box.hi; split <;> (apply box_ext <;> simp only [] <;> omega)
        have b3 : (b.lo op c).lo op at_ = b.lo op at_ := by unfold Box.lo; split <;> rfl
        rw [b1] at i2
        refine ⟨.cut op at_ _ _ ?_ ?_ m1 ?_ ?_, i2⟩
        · have : (b.lo op c).fr op = b.fr op := by unfold Box.lo Box.fr; split <;> rfl
          rw [this]; exact g1
        · have : (b.lo op c).to_ op = c := by unfold Box.lo Box.to_; split <;> (simp only; omega)
          rw [this]; exact hgt
        · rw [lows_lows (by omega), b3]; exact gl
        · rw [← lows_highs, b2]; exact i1
    · -- across
      have f1 : (b.lo op at_).fr o = b.fr o := by unfold Box.lo Box.fr; by_cases a : o = 3 <;> by_cases d : op = 3 <;> simp_all
      have f2 : (b.lo op at_).to_ o = b.to_ o := by unfold Box.lo Box.to_; by_cases a : o = 3 <;> by_cases d : op = 3 <;> simp_all
      have f3 : (b.hi op at_).fr o = b.fr o := by unfold Box.hi Box.fr; by_cases a : o = 3 <;> by_cases d : op = 3 <;> simp_all
      have f4 : (b.hi op at_).to_ o = b.to_ o := by unfold Box.hi Box.to_; by_cases a : o = 3 <;> by_cases d : op = 3 <;> simp_all
      have f5 : (b.lo o c).fr op = b.fr op := by unfold Box.lo Box.fr; by_cases a : o = 3 <;> by_cases d : op = 3 <;> simp_all
      have f6 : (b.lo o c).to_ op = b.to_ op := by unfold Box.lo Box.to_; by_cases a : o = 3 <;> by_cases d : op = 3 <;> simp_all
      have f7 : (b.hi o c).fr op = b.fr op := by unfold Box.hi Box.fr; by_cases a : o = 3 <;> by_cases d : op = 3 <;> simp_all
      have f8 : (b.hi o c).to_ op = b.to_ op := by unfold Box.hi Box.to_; by_cases a : o = 3 <;> by_cases d : op = 3 <;> simp_all
      have k1 : (b.lo o c).lo op at_ = (b.lo op at_).lo o c := by unfold Box.lo; by_cases a : o = 3 <;> by_cases d : op = 3 <;> simp_all
      have k2 : (b.lo o c).hi op at_ = (b.hi op at_).lo o c := by unfold Box.lo Box.hi; by_cases a : o = 3 <;> by_cases d : op = 3 <;> simp_all
      have k3 : (b.hi o c).lo op at_ = (b.lo op at_).hi o c := by unfold Box.lo Box.hi; by_cases a : o = 3 <;> by_cases d : op = 3 <;> simp_all
      have k4 : (b.hi o c).hi op at_ = (b.hi op at_).hi o c := by unfold Box.hi; by_cases a : o = 3 <;> by_cases d : op = 3 <;> simp_all
      obtain ⟨i1, i2⟩ := @il o c (by rw [f1]; exact h1) (by rw [f2]; exact h2) n1
      obtain ⟨j1, j2⟩ := @ih o c (by rw [f3]; exact h1) (by rw [f4]; exact h2) n2
      refine ⟨.cut op at_ _ _ (by rw [f5]; exact g1) (by rw [f6]; exact g2) m1 ?_ ?_, .cut op at_ _ _ (by rw [f7]; exact g1) (by rw [f8]; exact g2) m2 ?_ ?_⟩
      · rw [lows_comm, k1]; exact i1
      · rw [← lows_highs, k2]; exact j1
      · rw [lows_highs, k3]; exact i2
      · rw [highs_comm, k4]; exact j2

/-- Fewer places are cut as well. -/
theorem Gu.sub {l : List Place} {b : Box} (h : Gu l b) : ∀ {m : List Place}, m.Sublist l → Gu m b := by
  induction h with
  | nil b => intro m hm; rw [List.sublist_nil.1 hm]; exact .nil b
  | one q b hb =>
    intro m hm
    cases m with
    | nil => exact .nil b
    | cons x m =>
      have h1 := hm.length_le
      simp at h1
      subst h1
      have := hm.subset (List.mem_singleton.2 rfl)
      rw [List.mem_singleton.1 this]
      exact .one q b hb
  | cut op at_ l b g1 g2 g3 gl gh il ih =>
    intro m hm
    exact .cut op at_ m b g1 g2 (fun q hq => g3 q (hm.subset hq)) (il (hm.filter _)) (ih (hm.filter _))

end Go.Pc
