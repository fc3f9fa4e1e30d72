/- Plans that are found from places: the reference finds the same. -/
import Derived.Test.YtokghjmmdnhbeaaZf
set_option linter.unusedSimpArgs false
set_option linter.unusedVariables false
namespace Go.Pc
open Go Go.Proofs

/-! ### The places of cuts, ascending -/

theorem foldl_edge {op a x : Int} : ∀ {l : List Place} {S : List Int}, x ∈ l.foldl (edgeStep op a) S ↔ x ∈ S ∨ x = a ∧ ∃ q ∈ l, meetsE op a q
  | [], S => by simp
  | q :: l, S => by
    rw [List.foldl_cons, foldl_edge (l := l)]
    unfold edgeStep
    by_cases h : meetsE op a q ∧ a ∉ S
    · rw [if_pos h]
      constructor
      · rintro (h1 | ⟨h1, r, h2, h3⟩)
        · rcases List.mem_append.1 h1 with h1 | h1
          · exact .inl h1
          · exact .inr ⟨List.mem_singleton.1 h1, q, by simp, h.1⟩
        · exact .inr ⟨h1, r, by simp [h2], h3⟩
      · rintro (h1 | ⟨h1, r, h2, h3⟩)
        · exact .inl (by simp [h1])
        · exact .inl (by simp [h1])
    · rw [if_neg h]
      constructor
      · rintro (h1 | ⟨h1, r, h2, h3⟩)
        · exact .inl h1
        · exact .inr ⟨h1, r, by simp [h2], h3⟩
      · rintro (h1 | ⟨h1, r, h2, h3⟩)
        · exact .inl h1
        · rcases List.mem_cons.1 h2 with h2 | h2
          · subst h2
            by_cases h4 : a ∈ S
            · exact .inl (by rw [h1]; exact h4)
            · exact absurd ⟨h3, h4⟩ h
          · exact .inr ⟨h1, r, h2, h3⟩
theorem edgesN_mem {l : List Place} {op fr x : Int} : ∀ {n : Nat}, x ∈ edgesN l op fr n ↔ (fr < x ∧ x < fr + 1 + n) ∧ ∃ q ∈ l, meetsE op x q
  | 0 => by simp [edgesN]; omega
  | n + 1 => by
    rw [edgesN, foldl_edge, edgesN_mem]
    constructor
    · rintro (⟨h1, h2⟩ | ⟨h1, h2⟩)
      · exact ⟨by omega, h2⟩
      · subst h1; exact ⟨by omega, h2⟩
    · rintro ⟨h1, h2⟩
      by_cases h : x = fr + 1 + n
      · exact .inr ⟨h, by rw [← h]; exact h2⟩
      · exact .inl ⟨by omega, h2⟩
theorem edgesL_mem {l : List Place} {op fr to x : Int} : x ∈ edgesL l op fr to ↔ (fr < x ∧ x < to) ∧ ∃ q ∈ l, meetsE op x q := by
  unfold edgesL
  rw [edgesN_mem]
  constructor <;> (rintro ⟨h1, h2⟩; exact ⟨by omega, h2⟩)
theorem edgesN_sorted (l : List Place) (op fr : Int) : ∀ n : Nat, (edgesN l op fr n).Pairwise (· < ·)
  | 0 => by simp [edgesN]
  | n + 1 => by
    have h := edgesN_sorted l op fr n
    have hr : ∀ x ∈ edgesN l op fr n, x < fr + 1 + n := fun x hx => (edgesN_rng hx).2
    rw [edgesN]
    generalize edgesN l op fr n = S at *
    generalize fr + 1 + (n : Int) = a at *
    have key : ∀ (l : List Place) (S : List Int), S.Pairwise (· < ·) → (∀ x ∈ S, x ≤ a) → (a ∉ S → ∀ x ∈ S, x < a) → (l.foldl (edgeStep op a) S).Pairwise (· < ·) := by
      intro l
      induction l with
      | nil => intro S h1 _ _; exact h1
      | cons q l ih =>
        intro S h1 h2 h3
        rw [List.foldl_cons]
        unfold edgeStep
        by_cases h : meetsE op a q ∧ a ∉ S
        · rw [if_pos h]
          refine ih _ (List.pairwise_append.2 ⟨h1, by simp, fun x hx y hy => ?_⟩) (fun x hx => ?_) (fun hn => absurd (by simp) hn)
          · rw [List.mem_singleton.1 hy]; exact h3 h.2 x hx
          · rcases List.mem_append.1 hx with hx | hx
            · exact h2 x hx
            · rw [List.mem_singleton.1 hx]; omega
        · rw [if_neg h]; exact ih S h1 h2 h3
    exact key l S h (fun x hx => by have := hr x hx; omega) (fun _ => hr)

theorem meetsE_iff {op a : Int} {q : Place} : meetsE op a q ↔ a = q.lowE op ∨ a = q.highE op := by
  unfold meetsE Place.lowE Place.highE
  split <;> rfl
theorem SP_mem {l : List Place} {b : Box} {g : Nat} {x : Int} (hg : g < 2) : (x ∈ SP l b g ∧ partOk l (2 + (g : Int)) x = true) ↔ IsCut l b (2 + (g : Int)) x := by
  unfold SP partOk IsCut
  rw [edgesL_mem, decide_eq_true_iff]
  simp only [meetsE_iff]
  have e1 : frP b g = b.fr (2 + (g : Int)) := by unfold frP Box.fr; rcases (show g = 0 ∨ g = 1 by omega) with rfl | rfl <;> simp
  have e2 : (if g = 1 then b.Y + b.H else b.X + b.W) = b.to_ (2 + (g : Int)) := by unfold Box.to_; rcases (show g = 0 ∨ g = 1 by omega) with rfl | rfl <;> simp
  rw [e1, e2]
  constructor
  · rintro ⟨⟨⟨h1, h2⟩, h3⟩, h4⟩; exact ⟨h1, h2, h3, h4⟩
  · rintro ⟨h1, h2, h3, h4⟩; exact ⟨⟨⟨h1, h2⟩, h3⟩, h4⟩
theorem SP_sorted (l : List Place) (b : Box) (g : Nat) : (SP l b g).Pairwise (· < ·) := edgesN_sorted _ _ _ _
theorem FirstCut.hit {l : List Place} {b : Box} {g : Nat} {a : Int} (hg : g < 2) (h : FirstCut l b (2 + (g : Int)) a) : HitP l b g a := by
  obtain ⟨h1, h2, h3⟩ := h
  obtain ⟨k1, k2⟩ := (SP_mem hg).2 h1
  obtain ⟨i, hi, hx⟩ := List.mem_iff_getElem.1 k1
  refine ⟨i, hg, by rw [List.getElem?_eq_getElem hi, hx], k2, fun i' x' hi' hx' hp => ?_, fun g' i' x' hg' hx' hp => ?_⟩
  · have hc := (SP_mem hg).1 ⟨List.mem_of_getElem? hx', hp⟩
    obtain ⟨hl', rfl⟩ := List.getElem?_eq_some_iff.1 hx'
    have := List.pairwise_iff_getElem.1 (SP_sorted l b g) i' i hl' hi hi'
    exact h2 _ (by rw [← hx]; exact this) hc
  · have hc := (SP_mem (show g' < 2 by omega)).1 ⟨List.mem_of_getElem? hx', hp⟩
    have e0 : g' = 0 := by omega
    have e1 : g = 1 := by omega
    subst e0; subst e1
    rcases h3 with h3 | ⟨_, h3⟩
    · omega
    · exact h3 x' (by simpa using hc)
theorem HitP.cut {l : List Place} {b : Box} {g : Nat} {a : Int} (h : HitP l b g a) : IsCut l b (2 + (g : Int)) a := by
  obtain ⟨i, h1, h2, h3, _⟩ := h
  exact (SP_mem h1).1 ⟨List.mem_of_getElem? h2, h3⟩

theorem partL_true {l : List Place} {op a : Int} (h : ∀ q ∈ l, ¬ crossE op a q) : partL l op a true = lows op a l := by
  unfold partL lows
  rw [if_pos h]
  congr 1; funext q; simp
theorem partL_false {l : List Place} {op a : Int} (h : ∀ q ∈ l, ¬ crossE op a q) : partL l op a false = highs op a l := by
  unfold partL highs
  rw [if_pos h]
  congr 1; funext q; simp

/-- What is told of planFor. -/
def PlanForP (n : Nat) : Prop := ∀ (l : List Place) (b : Box), l.length ≤ 1048576 → (∀ q ∈ l, q.box.near) → (0 ≤ b.X ∧ 0 ≤ b.W ∧ b.X + b.W ≤ 500) → (0 ≤ b.Y ∧ 0 ≤ b.H ∧ b.Y + b.H ≤ 500) → b.W + b.H ≤ n →
  ∃ r : Option Plan, PF l b r ∧ ACalls Try.prog 33 [.sl (l.map Place.cs), .agg b.cs] [] [] (fun x L => x = .tup [.agg (r.getD .zero).cs, .val (.bool r.isSome)] ∧ L = [])

theorem planForS_ps (n : Nat) (ih : ∀ m, m + 1 = n → PlanForP m) : PlanForP n := by
  intro l b hl hln hbx hby hn
  by_cases h1 : l.length = 0
  · rw [List.length_eq_zero_iff.1 h1]
    exact ⟨some .zero, .nil b, planForS_zero [] b rfl⟩
  obtain ⟨q0, hq0⟩ := get_lt (l := l) (i := 0) (by omega)
  have hnil : l ≠ [] := by rintro rfl; simp at h1
  by_cases hne : l.length = 1 ∧ q0.box = b
  · have e : l = [q0] := by
      cases l with
      | nil => simp at h1
      | cons x l => simp at hq0; subst hq0; have := hne.1; simp at this; rw [this]
    refine ⟨some (.mk 1 0 q0.pa q0.tu []), by rw [e]; exact .one q0 b hne.2, planForS_one l b q0 hq0 hne⟩
  have hone : ∀ q, l = [q] → q.box ≠ b := fun q e hb => hne ⟨by rw [e]; rfl, by subst e; simp at hq0; rw [← hq0]; exact hb⟩
  rcases first_or l b with ⟨op, a, hf⟩ | ⟨n2, n3⟩
  · have ho : op = 2 ∨ op = 3 := by rcases hf.2.2 with h | h; exact .inl h; exact .inr h.1
    obtain ⟨g, hg, rfl⟩ : ∃ g : Nat, g < 2 ∧ op = 2 + (g : Int) := by rcases ho with rfl | rfl; exact ⟨0, by omega, rfl⟩; exact ⟨1, by omega, rfl⟩
    obtain ⟨c1, c2, _, c4⟩ := id hf.1
    have hH := hf.hit hg
    have hat : 1 ≤ a - b.fr (2 + (g : Int)) ∧ ((2 + (g : Int)) = 3 → a - b.fr (2 + (g : Int)) < b.H) ∧ ((2 + (g : Int)) ≠ 3 → a - b.fr (2 + (g : Int)) < b.W) := by
      unfold Box.fr at *
      unfold Box.to_ at c2
      by_cases e : (2 + (g : Int)) = 3
      · rw [if_pos e] at *; omega
      · rw [if_neg e] at *; omega
    have ebx : bothBox b (2 + (g : Int)) (a - b.fr (2 + (g : Int))) = (b.lo (2 + (g : Int)) a, b.hi (2 + (g : Int)) a) := by
      unfold bothBox Box.lo Box.hi Box.fr
      by_cases e : (2 + (g : Int)) = 3
      · rw [if_pos e, if_pos e, if_pos e, if_pos e]
        refine Prod.ext rfl ?_
        apply box_ext <;> simp only [] <;> omega
      · rw [if_neg e, if_neg e, if_neg e, if_neg e]
        refine Prod.ext rfl ?_
        apply box_ext <;> simp only [] <;> omega
    have hlo : (0 ≤ (b.lo (2 + (g : Int)) a).X ∧ 0 ≤ (b.lo (2 + (g : Int)) a).W ∧ (b.lo (2 + (g : Int)) a).X + (b.lo (2 + (g : Int)) a).W ≤ 500) ∧ (0 ≤ (b.lo (2 + (g : Int)) a).Y ∧ 0 ≤ (b.lo (2 + (g : Int)) a).H ∧ (b.lo (2 + (g : Int)) a).Y + (b.lo (2 + (g : Int)) a).H ≤ 500) ∧ (b.lo (2 + (g : Int)) a).W + (b.lo (2 + (g : Int)) a).H + 1 ≤ b.W + b.H := by
      unfold Box.lo
      unfold Box.fr Box.to_ at *
      by_cases e : (2 + (g : Int)) = 3
      · rw [if_pos e] at *; simp only; omega
      · rw [if_neg e] at *; simp only; omega
    have hhi : (0 ≤ (b.hi (2 + (g : Int)) a).X ∧ 0 ≤ (b.hi (2 + (g : Int)) a).W ∧ (b.hi (2 + (g : Int)) a).X + (b.hi (2 + (g : Int)) a).W ≤ 500) ∧ (0 ≤ (b.hi (2 + (g : Int)) a).Y ∧ 0 ≤ (b.hi (2 + (g : Int)) a).H ∧ (b.hi (2 + (g : Int)) a).Y + (b.hi (2 + (g : Int)) a).H ≤ 500) ∧ (b.hi (2 + (g : Int)) a).W + (b.hi (2 + (g : Int)) a).H + 1 ≤ b.W + b.H := by
      unfold Box.hi
      unfold Box.fr Box.to_ at *
      by_cases e : (2 + (g : Int)) = 3
      · rw [if_pos e] at *; simp only; omega
      · rw [if_neg e] at *; simp only; omega
    have H := ih (n - 1) (by omega)
    obtain ⟨r1, p1, A1⟩ := H (lows (2 + (g : Int)) a l) _ (Nat.le_trans (List.length_filter_le _ _) hl) (fun q hq => hln q (lows_sub hq)) hlo.1 hlo.2.1 (by omega)
    obtain ⟨r2, p2, A2⟩ := H (highs (2 + (g : Int)) a l) _ (Nat.le_trans (List.length_filter_le _ _) hl) (fun q hq => hln q (highs_sub hq)) hhi.1 hhi.2.1 (by omega)
    refine ⟨_, .cut _ a l b r1 r2 hnil hone hf p1 p2, ?_⟩
    have B := bothSidesS_w (lows (2 + (g : Int)) a l) (highs (2 + (g : Int)) a l) b (2 + (g : Int)) (a - b.fr (2 + (g : Int))) (r1.getD .zero) (r2.getD .zero) r1.isSome r2.isSome hbx hby hat (by rw [ebx]; exact A1) (by rw [ebx]; exact A2)
    have ec : (combP (2 + (g : Int)) (a - b.fr (2 + (g : Int))) r1 r2).getD .zero = (if (r1.isSome && r2.isSome) = true then Plan.mk (2 + (g : Int)) (a - b.fr (2 + (g : Int))) 0 false [r1.getD .zero, r2.getD .zero] else .zero) ∧ (combP (2 + (g : Int)) (a - b.fr (2 + (g : Int))) r1 r2).isSome = (r1.isSome && r2.isSome) := by
      cases r1 <;> cases r2 <;> simp [combP]
    rw [ec.1, ec.2]
    have efr : frP b g = b.fr (2 + (g : Int)) := by unfold frP Box.fr; rcases (show g = 0 ∨ g = 1 by omega) with rfl | rfl <;> simp
    refine planForS_w l b hl hln hbx hby h1 q0 hq0 hne _ _ (fun g' x' hx' => ?_) (fun hno => absurd ⟨g, a, hH⟩ hno)
    obtain ⟨rfl, rfl⟩ := hH.uniq hx'
    rw [partL_true c4, partL_false c4, efr]
    exact B
  · refine ⟨none, .none l b hnil hone n2 n3, planForS_w l b hl hln hbx hby h1 q0 hq0 hne _ _ (fun g x hx => ?_) (fun _ => ⟨rfl, rfl⟩)⟩
    have hc := hx.cut
    have hg : g < 2 := by obtain ⟨i, h, _⟩ := hx; exact h
    rcases (show g = 0 ∨ g = 1 by omega) with rfl | rfl
    · exact absurd (by simpa using hc) (n2 x)
    · exact absurd (by simpa using hc) (n3 x)

theorem planForS_p : ∀ n, PlanForP n := fun n => by
  induction n with
  | zero => exact planForS_ps 0 fun m h => by omega
  | succ n ih => exact planForS_ps (n + 1) fun m h => by rw [show m = n from by omega]; exact ih

end Go.Pc
