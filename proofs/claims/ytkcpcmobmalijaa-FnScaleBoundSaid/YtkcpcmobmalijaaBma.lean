/- Bounds and fewest sheets, in plain words. -/
import Derived.Test.YtkcpcmobmalijaaBle
import Derived.Test.YtkcpcmobmalijaaBkg
import Derived.Test.YtkcpcmobmalijaaBsi
set_option linter.unusedSimpArgs false
set_option linter.unusedVariables false
namespace Go.Pc
open Go Go.Proofs

/-- The set of the indices with a property. -/
def setOf : Nat → (Nat → Bool) → Nat
  | 0, _ => 0
  | n + 1, P => (if P 0 then 1 else 0) + 2 * setOf n (fun i => P (i + 1))
theorem setOf_mod (n : Nat) (P : Nat → Bool) : setOf (n + 1) P % 2 = (if P 0 then 1 else 0) ∧ setOf (n + 1) P / 2 = setOf n (fun i => P (i + 1)) := by
  rw [setOf]
  split <;> omega
theorem setOf_sub : ∀ (n : Nat) {P Q : Nat → Bool}, (∀ i, i < n → P i = true → Q i = true) → sub (setOf n P) (setOf n Q)
  | 0, _, _, _ => sub_zero _
  | n + 1, P, Q, h => by
    obtain ⟨a1, a2⟩ := setOf_mod n P
    obtain ⟨b1, b2⟩ := setOf_mod n Q
    rw [sub_iff, a1, a2, b1, b2]
    refine ⟨?_, setOf_sub n fun i hi hp => h (i + 1) (by omega) hp⟩
    by_cases c : P 0 = true
    · rw [if_pos c, if_pos (h 0 (by omega) c)]; exact Nat.le_refl _
    · rw [if_neg c]; exact Nat.zero_le _
theorem setOf_diff : ∀ (n : Nat) {P Q : Nat → Bool}, (∀ i, i < n → P i = true → Q i = true) → setOf n Q - setOf n P = setOf n (fun i => Q i && !P i)
  | 0, _, _, _ => rfl
  | n + 1, P, Q, h => by
    have ih := setOf_diff n (P := fun i => P (i + 1)) (Q := fun i => Q (i + 1)) fun i hi hp => h (i + 1) (by omega) hp
    have hs := sub_le (setOf_sub n (P := fun i => P (i + 1)) (Q := fun i => Q (i + 1)) fun i hi hp => h (i + 1) (by omega) hp)
    rw [setOf, setOf, setOf, ← ih]
    cases c1 : P 0 <;> cases c2 : Q 0
    · simp; omega
    · simp; omega
    · have := h 0 (by omega) c1; rw [c2] at this; cases this
    · simp; omega
theorem setOf_congr (n : Nat) {P Q : Nat → Bool} (h : ∀ i, i < n → P i = Q i) : setOf n P = setOf n Q := by
  induction n generalizing P Q with
  | zero => rfl
  | succ n ih =>
    rw [setOf, setOf, h 0 (by omega), ih fun i hi => h (i + 1) (by omega)]
theorem setOf_none : ∀ (n : Nat) {P : Nat → Bool}, (∀ i, i < n → P i = false) → setOf n P = 0
  | 0, _, _ => rfl
  | n + 1, P, h => by rw [setOf, setOf_none n fun i hi => h (i + 1) (by omega), h 0 (by omega)]; rfl
theorem setOf_one : ∀ (n j : Nat), j < n → setOf n (fun i => decide (i = j)) = 2 ^ j
  | 0, j, h => by omega
  | n + 1, 0, _ => by
    rw [setOf, setOf_none n fun i _ => by simp]
    rfl
  | n + 1, j + 1, h => by
    have := setOf_one n j (by omega)
    rw [setOf, setOf_congr n (Q := fun i => decide (i = j)) fun i _ => by simp, this, Nat.pow_succ]
    simp
    omega
theorem setOf_pos : ∀ (n : Nat) {P : Nat → Bool} (i : Nat), i < n → P i = true → 0 < setOf n P
  | 0, _, _, h, _ => by omega
  | n + 1, P, 0, _, hp => by rw [setOf, if_pos hp]; omega
  | n + 1, P, i + 1, h, hp => by
    have := setOf_pos n (P := fun i => P (i + 1)) i (by omega) hp
    rw [setOf]; omega
/-- The set of a list of indices. -/
def setL (n : Nat) (l : List Int) : Nat := setOf n fun i => decide ((i : Int) ∈ l)
theorem setL_cut {n : Nat} {a b : List Int} (hn : (a ++ b).Nodup) : sub (setL n a) (setL n (a ++ b)) ∧ setL n (a ++ b) - setL n a = setL n b := by
  have hs : ∀ i, i < n → (decide ((i : Int) ∈ a)) = true → decide ((i : Int) ∈ a ++ b) = true := fun i _ h => by
    rw [decide_eq_true_eq] at h ⊢
    exact List.mem_append_left _ h
  refine ⟨setOf_sub n hs, ?_⟩
  unfold setL
  rw [setOf_diff n hs]
  refine setOf_congr n fun i _ => ?_
  have hd := (List.nodup_append.1 hn).2.2
  by_cases c1 : (i : Int) ∈ a <;> by_cases c2 : (i : Int) ∈ b
  · exact absurd rfl (hd _ c1 _ c2)
  · simp [c1, c2]
  · simp [c1, c2]
  · simp [c1, c2]
theorem setL_pos {n : Nat} {l : List Int} (hl : l ≠ []) (hi : ∀ i ∈ l, 0 ≤ i ∧ i < (n : Int)) : 0 < setL n l := by
  cases l with
  | nil => exact absurd rfl hl
  | cons i l =>
    have := hi i (by simp)
    refine setOf_pos n i.toNat (by omega) ?_
    rw [decide_eq_true_eq, Int.toNat_of_nonneg this.1]
    simp
theorem setL_one {n : Nat} {i : Int} (hi : 0 ≤ i ∧ i < (n : Int)) : setL n [i] = 2 ^ i.toNat := by
  rw [← setOf_one n i.toNat (by omega)]
  refine setOf_congr n fun j _ => ?_
  rw [decide_eq_decide, List.mem_singleton]
  omega

theorem pane_way {k : Work} {i w h : Int} (hw : wOf k i ≤ w) (hh : hOf k i ≤ h) : wayOk (paneA k i) w h := .inl ⟨hw, hh⟩
theorem cut_row {k : Work} (hk : plainW k) (h : Nat) (h1 : 1 ≤ h) : ∀ (r : List Int) (w : Nat), r ≠ [] → r.Nodup → (∀ i ∈ r, (0 ≤ i ∧ i < (k.Ps.length : Int)) ∧ hOf k i ≤ h) → sumI (wOf k) r ≤ w → Cut k (setL k.Ps.length r) w h
  | [], _, h0, _, _, _ => absurd rfl h0
  | [i], w, _, _, hi, hw => by
    obtain ⟨hi1, hi2⟩ := hi i (by simp)
    rw [setL_one hi1]
    have hw : wOf k i ≤ (w : Int) := by simpa [sumI] using hw
    exact .one _ _ w h (paneA_get hi1) (pane_way hw hi2)
  | i :: j :: r, w, _, hn, hi, hw => by
    obtain ⟨hi1, hi2⟩ := hi i (by simp)
    have hj := hi j (by simp)
    have hr := fun x hx => hi x (List.mem_cons_of_mem _ hx)
    obtain ⟨p1, _, _⟩ := hk.pane hi1
    rw [sumI_cons] at hw
    have h0 : 0 ≤ sumI (wOf k) (j :: r) := by
      have hge : ∀ l : List Int, (∀ x ∈ l, (0 ≤ x ∧ x < (k.Ps.length : Int))) → 0 ≤ sumI (wOf k) l := fun l => by
        induction l with
        | nil => simp [sumI]
        | cons a l ih =>
          intro hl
          have h1 := (hk.pane (hl a (by simp))).1.1
          have h2 := ih fun x hx => hl x (by simp [hx])
          rw [sumI_cons]
          unfold wOf at *
          omega
      exact hge _ fun x hx => (hr x hx).1
    have rest := cut_row hk h h1 (j :: r) (w - (wOf k i).toNat) (by simp) (List.nodup_cons.1 hn).2 hr (by unfold wOf at *; omega)
    have sc := setL_cut (n := k.Ps.length) (a := [i]) (b := j :: r) (by simpa using hn)
    rw [List.singleton_append] at sc
    have q1 : 0 < setL k.Ps.length [i] := setL_pos (by simp) (by simpa using hi1)
    have q2 : 0 < setL k.Ps.length (j :: r) := setL_pos (by simp) fun x hx => (hr x hx).1
    have one : Cut k (setL k.Ps.length [i]) (wOf k i).toNat h := by
      rw [setL_one hi1]
      exact .one _ _ _ h (paneA_get hi1) (pane_way (by unfold wOf at *; omega) hi2)
    have := Cut.down _ _ _ (w - (wOf k i).toNat) h sc.1 q1 (by omega) one (by rw [sc.2]; exact rest)
    rwa [show (wOf k i).toNat + (w - (wOf k i).toNat) = w by unfold wOf at *; omega] at this
theorem RowOk.cut {k : Work} (hk : plainW k) {r : List Int} (hr : RowOk k r) (hn : r.Nodup) : 1 ≤ highR k r ∧ Cut k (setL k.Ps.length r) k.W.toNat (highR k r).toNat := by
  have h3 : 1 ≤ highR k r := by
    cases hr' : r with
    | nil => exact absurd hr' hr.ne
    | cons i l =>
      have := (hk.pane (hr.idx i (by rw [hr']; simp))).2.1.1
      simpa [highR, hOf] using this
  have hkw := hk.1
  unfold Work.ok at hkw
  refine ⟨h3, cut_row hk _ (by omega) r _ hr.ne hn (fun i hi => ⟨hr.idx i hi, by have := hr.high i hi; omega⟩) (by have := hr.wide; omega)⟩
end Go.Pc
