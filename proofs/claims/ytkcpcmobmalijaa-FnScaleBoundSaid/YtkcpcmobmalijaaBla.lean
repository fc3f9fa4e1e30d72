/- What sets of panes can be cut from what glass, in plain words. -/
import Derived.Test.YtkcpcmobmalijaaBka
import Derived.Test.YtkcpcmobmalijaaBsb
set_option linter.unusedSimpArgs false
set_option linter.unusedVariables false
namespace Go.Pc
open Go Go.Proofs

/-- A pane fits glass, as it is or turned. -/
def wayOk (q : Pane) (w h : Int) : Prop := (q.W ≤ w ∧ q.H ≤ h) ∨ (q.Tu = true ∧ q.W ≠ q.H ∧ q.H ≤ w ∧ q.W ≤ h)
instance (q : Pane) (w h : Int) : Decidable (wayOk q w h) := inferInstanceAs (Decidable (_ ∨ _))
theorem wayOk.mono {q : Pane} {w h w' h' : Int} (hh : wayOk q w h) (h1 : w ≤ w') (h2 : h ≤ h') : wayOk q w' h' := by
  unfold wayOk at *
  rcases hh with hh | ⟨a, b, c, d⟩
  · exact .inl (by omega)
  · exact .inr ⟨a, b, by omega, by omega⟩

inductive Cut (k : Work) : Nat → Nat → Nat → Prop
  | zero (w h : Nat) (hw : 1 ≤ w) (hh : 1 ≤ h) : Cut k 0 w h
  | one (i : Nat) (q : Pane) (w h : Nat) (hq : k.Ps[i]? = some q) (hf : wayOk q w h) : Cut k (2 ^ i) w h
  | down (s a x y h : Nat) (ha : sub a s) (h0 : 0 < a) (h1 : a < s) (A : Cut k a x h) (B : Cut k (s - a) y h) : Cut k s (x + y) h
  | across (s a w x y : Nat) (ha : sub a s) (h0 : 0 < a) (h1 : a < s) (A : Cut k a w x) (B : Cut k (s - a) w y) : Cut k s w (x + y)

theorem Cut.pos {k : Work} (hk : k.ok) {s w h : Nat} (H : Cut k s w h) : 1 ≤ w ∧ 1 ≤ h := by
  induction H with
  | zero w h hw hh => exact ⟨hw, hh⟩
  | one i q w h hq hf =>
    have := hk.2.2.1 q (List.mem_of_getElem? hq)
    unfold Pane.ok at this
    unfold wayOk at hf
    omega
  | down s a x y h ha h0 h1 A B iA iB => omega
  | across s a w x y ha h0 h1 A B iA iB => omega
theorem Cut.mono {k : Work} {s w h : Nat} (H : Cut k s w h) : ∀ w' h', w ≤ w' → h ≤ h' → Cut k s w' h' := by
  induction H with
  | zero w h hw hh => intro w' h' h1 h2; exact .zero w' h' (by omega) (by omega)
  | one i q w h hq hf => intro w' h' h1 h2; exact .one i q w' h' hq (hf.mono (by omega) (by omega))
  | down s a x y h ha h0 h1 A B iA iB =>
    intro w' h' g1 g2
    have := Cut.down s a x (w' - x) h' ha h0 h1 (iA x h' (Nat.le_refl _) g2) (iB (w' - x) h' (by omega) g2)
    rwa [show x + (w' - x) = w' by omega] at this
  | across s a w x y ha h0 h1 A B iA iB =>
    intro w' h' g1 g2
    have := Cut.across s a w' x (h' - x) ha h0 h1 (iA w' x g1 (Nat.le_refl _)) (iB w' (h' - x) g1 (by omega))
    rwa [show x + (h' - x) = h' by omega] at this

/-- A set and glass are cut in two, with the part a on the one side. -/
def partA (k : Work) (s w h a : Nat) : Prop := (∃ x, 1 ≤ x ∧ x < w ∧ Cut k a x h ∧ Cut k (s - a) (w - x) h) ∨ ∃ y, 1 ≤ y ∧ y < h ∧ Cut k a w y ∧ Cut k (s - a) w (h - y)
def parts (k : Work) (s w h : Nat) : Prop := ∃ a, sub a s ∧ 0 < a ∧ a < s ∧ partA k s w h a
theorem parts_cut {k : Work} {s w h : Nat} (H : parts k s w h) : Cut k s w h := by
  obtain ⟨a, h1, h2, h3, H⟩ := H
  rcases H with ⟨x, x1, x2, A, B⟩ | ⟨y, y1, y2, A, B⟩
  · have := Cut.down s a x (w - x) h h1 h2 h3 A B
    rwa [show x + (w - x) = w by omega] at this
  · have := Cut.across s a w y (h - y) h1 h2 h3 A B
    rwa [show y + (h - y) = h by omega] at this
theorem sub_pow : ∀ {i a : Nat}, sub a (2 ^ i) → 0 < a → a = 2 ^ i
  | 0, a, h, h0 => by have := sub_le h; rw [Nat.pow_zero] at *; omega
  | i + 1, a, h, h0 => by
    have h1 := sub_iff.1 h
    rw [Nat.pow_succ, Nat.mul_mod_left, Nat.mul_div_cancel _ (by omega)] at h1
    have := sub_pow h1.2 (by omega)
    rw [Nat.pow_succ]; omega
theorem parts_pow (k : Work) (i w h : Nat) : ¬ parts k (2 ^ i) w h := fun ⟨a, h1, h2, h3, _⟩ => by
  have := sub_pow h1 h2
  omega
theorem Cut.inv {k : Work} (hk : k.ok) {s w h : Nat} (H : Cut k s w h) : s = 0 ∨ (∃ i q, s = 2 ^ i ∧ k.Ps[i]? = some q ∧ wayOk q w h) ∨ parts k s w h := by
  cases H with
  | zero => exact .inl rfl
  | one i q _ _ hq hf => exact .inr (.inl ⟨i, q, rfl, hq, hf⟩)
  | down _ a x y _ ha h0 h1 A B =>
    have p1 := A.pos hk
    have p2 := B.pos hk
    exact .inr (.inr ⟨a, ha, h0, h1, .inl ⟨x, p1.1, by omega, A, by rwa [Nat.add_sub_cancel_left]⟩⟩)
  | across _ a _ x y ha h0 h1 A B =>
    have p1 := A.pos hk
    have p2 := B.pos hk
    exact .inr (.inr ⟨a, ha, h0, h1, .inr ⟨x, p1.2, by omega, A, by rwa [Nat.add_sub_cancel_left]⟩⟩)
theorem pow_inj2 {i j : Nat} (h : 2 ^ i = 2 ^ j) : i = j := (Nat.pow_right_inj (by omega)).1 h
theorem cut_pow {k : Work} (hk : k.ok) {i w h : Nat} {q : Pane} (hq : k.Ps[i]? = some q) : Cut k (2 ^ i) w h ↔ wayOk q w h := by
  refine ⟨fun H => ?_, fun H => .one i q w h hq H⟩
  rcases H.inv hk with e | ⟨j, q', e, hq', hw⟩ | hp
  · have := Nat.two_pow_pos i; omega
  · have := pow_inj2 e
    subst this
    rw [hq] at hq'
    cases hq'
    exact hw
  · exact absurd hp (parts_pow k i w h)
theorem cut_parts {k : Work} (hk : k.ok) {s w h : Nat} (h0 : 0 < s) (hs : ∀ i, i < k.Ps.length → s ≠ 2 ^ i) : Cut k s w h ↔ parts k s w h := by
  refine ⟨fun H => ?_, parts_cut⟩
  rcases H.inv hk with e | ⟨j, q', e, hq', hw⟩ | hp
  · omega
  · exact absurd e (hs j (List.getElem?_eq_some_iff.1 hq').1)
  · exact hp

noncomputable def cutB (k : Work) (s w h : Nat) : Bool := @decide (Cut k s w h) (Classical.propDecidable _)
theorem cutB_iff {k : Work} {s w h : Nat} : cutB k s w h = true ↔ Cut k s w h := @decide_eq_true_iff _ (Classical.propDecidable _)
noncomputable def partsB (k : Work) (s w h : Nat) : Bool := @decide (parts k s w h) (Classical.propDecidable _)
theorem partsB_iff {k : Work} {s w h : Nat} : partsB k s w h = true ↔ parts k s w h := @decide_eq_true_iff _ (Classical.propDecidable _)

/-! ### The program's table -/

def tabB (f : Nat → Nat → Nat → Bool) : List AV := (List.range 4624).map fun (j : Nat) => .val (.bool (f (j / 289) (j / 17 % 17) (j % 17)))
theorem tabB_len (f : Nat → Nat → Nat → Bool) : (tabB f).length = 4624 := by simp only [tabB, List.length_map, List.length_range]
theorem tabB_zero : List.replicate 4624 (AV.val (.bool false)) = tabB (fun _ _ _ => false) := by
  refine List.ext_getElem? fun i => ?_
  simp only [tabB, List.getElem?_map, List.getElem?_replicate]
  by_cases h : i < 4624
  · rw [List.getElem?_range h, if_pos h]; rfl
  · rw [List.getElem?_eq_none (by rw [List.length_range]; omega), if_neg h]; rfl
theorem tabB_get {f : Nat → Nat → Nat → Bool} {s w h : Nat} (hs : s < 16) (hw : w < 17) (hh : h < 17) : (tabB f)[s * 289 + w * 17 + h]? = some (.val (.bool (f s w h))) := by
  simp only [tabB, List.getElem?_map, List.getElem?_range (show s * 289 + w * 17 + h < 4624 by omega), Option.map_some]
  rw [show (s * 289 + w * 17 + h) / 289 = s by omega, show (s * 289 + w * 17 + h) / 17 % 17 = w by omega, show (s * 289 + w * 17 + h) % 17 = h by omega]
def updB (f : Nat → Nat → Nat → Bool) (s w h : Nat) (m : Bool) (a b c : Nat) : Bool := if a = s ∧ b = w ∧ c = h then m else f a b c
theorem tabB_put {f : Nat → Nat → Nat → Bool} {s w h : Nat} (hs : s < 16) (hw : w < 17) (hh : h < 17) (m : Bool) : (tabB f).take (s * 289 + w * 17 + h) ++ .val (.bool m) :: (tabB f).drop (s * 289 + w * 17 + h + 1) = tabB (updB f s w h m) := by
  have e : (tabB f).set (s * 289 + w * 17 + h) (.val (.bool m)) = tabB (updB f s w h m) := by
    refine List.ext_getElem? fun i => ?_
    by_cases hi : i < 4624
    · rw [List.getElem?_set, tabB_len]
      simp only [tabB, List.getElem?_map, List.getElem?_range hi, Option.map_some, updB]
      by_cases e : s * 289 + w * 17 + h = i
      · rw [if_pos e, if_pos (by omega), if_pos (by omega)]
      · rw [if_neg e, if_neg (by omega)]
    · rw [List.getElem?_eq_none (by rw [List.length_set, tabB_len]; omega), List.getElem?_eq_none (by rw [tabB_len]; omega)]
  rw [← e, List.set_eq_take_append_cons_drop, if_pos (by rw [tabB_len]; omega)]
theorem tabB_under (f : Nat → Nat → Nat → Bool) (m : Nat) : underL m (tabB f) = true := by
  unfold tabB
  generalize List.range 4624 = l
  induction l with
  | nil => rfl
  | cons x l ih => simp only [List.map_cons, underL, ih, AV.under]; rfl
theorem tabB_free (f : Nat → Nat → Nat → Bool) : freeL (tabB f) = true := by
  unfold tabB
  generalize List.range 4624 = l
  induction l with
  | nil => rfl
  | cons x l ih => simp only [List.map_cons, freeL, ih, AV.free]; rfl
theorem tabB_filtd (p : Nat → Bool) (f : Nat → Nat → Nat → Bool) : filtL p (tabB f) = tabB f := (free_filt_aux p).2 _ (tabB_free f)
theorem tabB_rend (p : Nat → Nat) (f : Nat → Nat → Nat → Bool) : renL p (tabB f) = tabB f := freeL_rend p (tabB_free f)
theorem tabB_take (f : Nat → Nat → Nat → Bool) : (tabB f).take 4624 = tabB f := List.take_of_length_le (by rw [tabB_len]; exact Nat.le_refl _)
theorem tabB_all (f : Nat → Nat → Nat → Bool) : (tabB f).all AV.one = true ∧ (tabB f).all AV.pure = true := by
  unfold tabB
  generalize List.range 4624 = l
  induction l with
  | nil => exact ⟨rfl, rfl⟩
  | cons x l ih => simp only [List.map_cons, List.all_cons, ih.1, ih.2]; exact ⟨rfl, rfl⟩
theorem tabB_one (f : Nat → Nat → Nat → Bool) : (tabB f).all AV.one = true := (tabB_all f).1
theorem tabB_pure (f : Nat → Nat → Nat → Bool) : (tabB f).all AV.pure = true := (tabB_all f).2
theorem tabB_app (f g : Nat → Nat → Nat → Bool) : tabB f ++ (tabB g).drop 4624 = tabB f := by rw [List.drop_of_length_le (by rw [tabB_len]; exact Nat.le_refl _), List.append_nil]
theorem DBla0 : type_of% @tabB_app ∧ type_of% @tabB_filtd ∧ type_of% @tabB_rend ∧ type_of% @tabB_len ∧ type_of% @tabB_take ∧ type_of% @tabB_one ∧ type_of% @tabB_pure := ⟨@tabB_app, @tabB_filtd, @tabB_rend, @tabB_len, @tabB_take, @tabB_one, @tabB_pure⟩

end Go.Pc
