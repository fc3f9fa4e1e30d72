/- Plans that are found from places: plain. -/
import Derived.Test.YtokghjmmdnhbeaaZa
set_option linter.unusedSimpArgs false
set_option linter.unusedVariables false
namespace Go.Pc
open Go Go.Proofs

/-- A cut that touches a place and crosses none. -/
def IsCut (l : List Place) (b : Box) (op at_ : Int) : Prop := b.fr op < at_ ∧ at_ < b.to_ op ∧ (∃ q ∈ l, at_ = q.lowE op ∨ at_ = q.highE op) ∧ ∀ q ∈ l, ¬ crossE op at_ q
/-- The least one, of the width before the height. -/
def FirstCut (l : List Place) (b : Box) (op at_ : Int) : Prop := IsCut l b op at_ ∧ (∀ a, a < at_ → ¬ IsCut l b op a) ∧ (op = 2 ∨ op = 3 ∧ ∀ a, ¬ IsCut l b 2 a)
theorem FirstCut.uniq {l : List Place} {b : Box} {op op' a a' : Int} (h : FirstCut l b op a) (h' : FirstCut l b op' a') : op = op' ∧ a = a' := by
  obtain ⟨h1, h2, h3⟩ := h
  obtain ⟨k1, k2, k3⟩ := h'
  have e : op = op' := by
    rcases h3 with h3 | ⟨h3, h4⟩ <;> rcases k3 with k3 | ⟨k3, k4⟩
    · omega
    · subst h3; exact absurd h1 (k4 _)
    · subst k3; exact absurd k1 (h4 _)
    · omega
  subst e
  refine ⟨rfl, ?_⟩
  rcases Int.lt_trichotomy a a' with h | h | h
  · exact absurd h1 (k2 a h)
  · exact h
  · exact absurd k1 (h2 a' h)
def combP (op a : Int) : Option Plan → Option Plan → Option Plan
  | some p, some q => some (.mk op a 0 false [p, q])
  | _, _ => none
theorem combP_some {op a : Int} {r1 r2 : Option Plan} : (combP op a r1 r2).isSome = true ↔ r1.isSome = true ∧ r2.isSome = true := by
  cases r1 <;> cases r2 <;> simp [combP]

/-- What is found. -/
inductive PF : List Place → Box → Option Plan → Prop
  | nil (b : Box) : PF [] b (some .zero)
  | one (q : Place) (b : Box) : q.box = b → PF [q] b (some (.mk 1 0 q.pa q.tu []))
  | none (l : List Place) (b : Box) : l ≠ [] → (∀ q, l = [q] → q.box ≠ b) → (∀ a, ¬ IsCut l b 2 a) → (∀ a, ¬ IsCut l b 3 a) → PF l b none
  | cut (op at_ : Int) (l : List Place) (b : Box) (r1 r2 : Option Plan) : l ≠ [] → (∀ q, l = [q] → q.box ≠ b) → FirstCut l b op at_ → PF (lows op at_ l) (b.lo op at_) r1 → PF (highs op at_ l) (b.hi op at_) r2 → PF l b (combP op (at_ - b.fr op) r1 r2)

theorem FirstCut.not_none {l : List Place} {b : Box} {op a : Int} (h : FirstCut l b op a) (h2 : ∀ a, ¬ IsCut l b 2 a) (h3 : ∀ a, ¬ IsCut l b 3 a) : False := by
  rcases h.2.2 with e | ⟨e, _⟩
  · subst e; exact h2 _ h.1
  · subst e; exact h3 _ h.1

theorem PF.uniq {l : List Place} {b : Box} {r : Option Plan} (h : PF l b r) : ∀ {r'}, PF l b r' → r = r' := by
  induction h with
  | nil b =>
    intro r' h'
    cases h' with
    | nil => rfl
    | none _ _ h => exact absurd rfl h
    | cut _ _ _ _ _ _ h => exact absurd rfl h
  | one q b hb =>
    intro r' h'
    cases h' with
    | one => rfl
    | none _ _ _ h => exact absurd hb (h q rfl)
    | cut _ _ _ _ _ _ _ h => exact absurd hb (h q rfl)
  | none l b h1 h2 h3 h4 =>
    intro r' h'
    cases h' with
    | nil => exact absurd rfl h1
    | one q _ hb => exact absurd hb (h2 q rfl)
    | none => rfl
    | cut _ _ _ _ _ _ _ _ hf => exact (hf.not_none h3 h4).elim
  | cut op at_ l b r1 r2 h1 h2 hf _ _ i1 i2 =>
    intro r' h'
    cases h' with
    | nil => exact absurd rfl h1
    | one q _ hb => exact absurd hb (h2 q rfl)
    | none _ _ _ _ h3 h4 => exact (hf.not_none h3 h4).elim
    | cut op' at' _ _ s1 s2 _ _ hf' j1 j2 =>
      obtain ⟨rfl, rfl⟩ := hf.uniq hf'
      rw [i1 j1, i2 j2]

theorem IsCut.mem {l m : List Place} (h : ∀ q, q ∈ l ↔ q ∈ m) {b : Box} {op a : Int} : IsCut l b op a ↔ IsCut m b op a := by
  unfold IsCut
  simp only [h]
theorem FirstCut.mem {l m : List Place} (h : ∀ q, q ∈ l ↔ q ∈ m) {b : Box} {op a : Int} : FirstCut l b op a ↔ FirstCut m b op a := by
  unfold FirstCut
  simp only [IsCut.mem h]
/-- The order does not matter. -/
theorem PF.perm {l : List Place} {b : Box} {r : Option Plan} (h : PF l b r) : ∀ {m}, l.Perm m → PF m b r := by
  induction h with
  | nil b => intro m hm; rw [List.nil_perm.1 hm]; exact .nil b
  | one q b hb => intro m hm; rw [← List.singleton_perm.1 hm]; exact .one q b hb
  | none l b h1 h2 h3 h4 =>
    intro m hm
    have hmem : ∀ q, q ∈ l ↔ q ∈ m := fun q => hm.mem_iff
    refine .none m b (fun e => h1 (by subst e; exact List.perm_nil.1 hm)) (fun q e => by subst e; exact h2 q (List.perm_singleton.1 hm)) (fun a => fun hc => h3 a ((IsCut.mem hmem).2 hc)) (fun a => fun hc => h4 a ((IsCut.mem hmem).2 hc))
  | cut op at_ l b r1 r2 h1 h2 hf _ _ i1 i2 =>
    intro m hm
    have hmem : ∀ q, q ∈ l ↔ q ∈ m := fun q => hm.mem_iff
    exact .cut op at_ m b r1 r2 (fun e => h1 (by subst e; exact List.perm_nil.1 hm)) (fun q e => by subst e; exact h2 q (List.perm_singleton.1 hm)) ((FirstCut.mem hmem).1 hf) (i1 (hm.filter _)) (i2 (hm.filter _))

/-- If there is a cut then one that touches a place. -/
theorem touch {l : List Place} {b : Box} {op at_ : Int} (hl : l ≠ []) (hin : ∀ q ∈ l, b.fr op ≤ q.lowE op ∧ q.lowE op < q.highE op ∧ q.highE op ≤ b.to_ op) (h1 : b.fr op < at_) (h2 : at_ < b.to_ op) (h3 : ∀ q ∈ l, ¬ crossE op at_ q) : ∃ a, IsCut l b op a := by
  by_cases hlow : ∃ q ∈ l, q.highE op ≤ at_
  · -- the greatest end
    have : ∀ (m : List Place), (∀ q ∈ m, q ∈ l) → (∃ q ∈ m, q.highE op ≤ at_) → ∃ q ∈ m, q.highE op ≤ at_ ∧ ∀ r ∈ m, r.highE op ≤ at_ → r.highE op ≤ q.highE op := by
      intro m
      induction m with
      | nil => intro _ h; obtain ⟨q, hq, _⟩ := h; cases hq
      | cons x m ih =>
        intro hs h
        by_cases hm : ∃ q ∈ m, q.highE op ≤ at_
        · obtain ⟨q, hq, hq1, hq2⟩ := ih (fun q hq => hs q (by simp [hq])) hm
          by_cases hx : x.highE op ≤ at_ ∧ q.highE op < x.highE op
          · refine ⟨x, by simp, hx.1, fun r hr hr1 => ?_⟩
            rcases List.mem_cons.1 hr with rfl | hr
            · exact Int.le_refl _
            · have := hq2 r hr hr1; omega
          · refine ⟨q, by simp [hq], hq1, fun r hr hr1 => ?_⟩
            rcases List.mem_cons.1 hr with rfl | hr
            · omega
            · exact hq2 r hr hr1
        · obtain ⟨q, hq, hq1⟩ := h
          rcases List.mem_cons.1 hq with rfl | hq
          · refine ⟨q, by simp, hq1, fun r hr hr1 => ?_⟩
            rcases List.mem_cons.1 hr with rfl | hr
            · exact Int.le_refl _
            · exact absurd ⟨r, hr, hr1⟩ hm
          · exact absurd ⟨q, hq, hq1⟩ hm
    obtain ⟨q, hq, hq1, hq2⟩ := this l (fun _ h => h) hlow
    have hqi := hin q hq
    refine ⟨q.highE op, by omega, by omega, ⟨q, hq, .inr rfl⟩, fun r hr hc => ?_⟩
    have hri := hin r hr
    have h4 := h3 r hr
    unfold crossE at hc h4
    by_cases hrl : r.highE op ≤ at_
    · have := hq2 r hr hrl; omega
    · omega
  · -- the least begin
    have hno : ∀ q ∈ l, at_ ≤ q.lowE op := fun q hq => by
      have h4 := h3 q hq
      unfold crossE at h4
      have : ¬ q.highE op ≤ at_ := fun h => hlow ⟨q, hq, h⟩
      omega
    have : ∀ (m : List Place), m ≠ [] → ∃ q ∈ m, ∀ r ∈ m, q.lowE op ≤ r.lowE op := by
      intro m
      induction m with
      | nil => intro h; exact absurd rfl h
      | cons x m ih =>
        intro _
        by_cases hm : m = []
        · subst hm
          exact ⟨x, by simp, fun r hr => by rw [List.mem_singleton.1 hr]; exact Int.le_refl _⟩
        · obtain ⟨q, hq, hq2⟩ := ih hm
          by_cases hx : x.lowE op ≤ q.lowE op
          · refine ⟨x, by simp, fun r hr => ?_⟩
            rcases List.mem_cons.1 hr with rfl | hr
            · exact Int.le_refl _
            · have := hq2 r hr; omega
          · refine ⟨q, by simp [hq], fun r hr => ?_⟩
            rcases List.mem_cons.1 hr with rfl | hr
            · omega
            · exact hq2 r hr
    obtain ⟨q, hq, hq2⟩ := this l hl
    have hqi := hin q hq
    have hqa := hno q hq
    refine ⟨q.lowE op, by omega, by omega, ⟨q, hq, .inl rfl⟩, fun r hr hc => ?_⟩
    have := hq2 r hr
    unfold crossE at hc
    omega

/-- Places inside of glass. -/
def InG (l : List Place) (b : Box) : Prop := ∀ q ∈ l, ∀ op, b.fr op ≤ q.lowE op ∧ q.lowE op < q.highE op ∧ q.highE op ≤ b.to_ op
theorem InG.lows {l : List Place} {b : Box} (h : InG l b) {op a : Int} (h1 : b.fr op < a) (h2 : a < b.to_ op) : InG (lows op a l) (b.lo op a) := fun q hq o => by
  have := h q (lows_sub hq) o
  have hh := of_decide_eq_true (List.mem_filter.1 hq).2
  unfold Box.lo Box.fr Box.to_ Place.lowE Place.highE at *
  by_cases c : o = 3 <;> by_cases d : op = 3 <;> simp only [c, d, if_true, if_false] at * <;> omega
theorem InG.highs {l : List Place} {b : Box} (h : InG l b) {op a : Int} (h1 : b.fr op < a) (h2 : a < b.to_ op) (h3 : ∀ q ∈ l, ¬ crossE op a q) : InG (highs op a l) (b.hi op a) := fun q hq o => by
  have := h q (highs_sub hq) o
  have h4 := h3 q (highs_sub hq)
  have hh : ¬ q.highE op ≤ a := by have := (List.mem_filter.1 hq).2; simpa using this
  unfold crossE at h4
  unfold Box.hi Box.fr Box.to_ Place.lowE Place.highE at *
  by_cases c : o = 3 <;> by_cases d : op = 3 <;> simp only [c, d, if_true, if_false] at * <;> omega

/-- A plan is found if the places can be cut at all. -/
theorem PF.iff {l : List Place} {b : Box} {r : Option Plan} (h : PF l b r) : InG l b → (r.isSome = true ↔ Gu l b) := by
  induction h with
  | nil b => exact fun _ => ⟨fun _ => .nil b, fun _ => rfl⟩
  | one q b hb => exact fun _ => ⟨fun _ => .one q b hb, fun _ => rfl⟩
  | none l b h1 h2 h3 h4 =>
    intro hin
    refine ⟨fun h => (by cases h), fun hg => ?_⟩
    cases hg with
    | nil => exact absurd rfl h1
    | one q _ hb => exact absurd hb (h2 q rfl)
    | cut op at_ _ _ g1 g2 g3 _ _ =>
      obtain ⟨a, ha⟩ := touch h1 (fun q hq => hin q hq op) g1 g2 g3
      by_cases ho : op = 3
      · subst ho; exact absurd ha (h4 a)
      · have : IsCut l b 2 a := by
          unfold IsCut crossE Box.fr Box.to_ Place.lowE Place.highE at *
          simp only [ho, if_false] at ha
          simpa using ha
        exact absurd this (h3 a)
  | cut op at_ l b r1 r2 h1 h2 hf _ _ i1 i2 =>
    intro hin
    obtain ⟨⟨c1, c2, _, c4⟩, _⟩ := hf
    have j1 := i1 (hin.lows c1 c2)
    have j2 := i2 (hin.highs c1 c2 c4)
    rw [combP_some, j1, j2]
    exact ⟨fun h => .cut op at_ l b c1 c2 c4 h.1 h.2, fun h => h.restrict c1 c2 c4⟩

end Go.Pc
