/- Turns of panes: when a buffer is large enough: plain. -/
import Derived.Test.YtncjnchmmagkkaaQc
set_option linter.unusedSimpArgs false
set_option linter.unusedVariables false
namespace Go.Pc
open Go Go.Proofs

theorem lined_pre {a b : List Int} (h : lined (a ++ b)) : lined a := by
  rw [lined_iff] at *
  intro i x hx
  exact h i x (by rw [List.getElem?_append_left (List.getElem?_eq_some_iff.1 hx).1]; exact hx)
theorem lined_mem {l : List Int} (h : lined l) {x : Int} : x ∈ l ↔ 0 ≤ x ∧ x < l.length := by
  constructor
  · intro hx
    obtain ⟨i, hi, rfl⟩ := List.mem_iff_getElem.1 hx
    have := lined_iff.1 h i _ (List.getElem?_eq_getElem hi)
    omega
  · rintro ⟨h1, h2⟩
    have hi : x.toNat < l.length := by omega
    have := lined_iff.1 h x.toNat _ (List.getElem?_eq_getElem hi)
    rw [show x = l[x.toNat] by omega]
    exact List.getElem_mem _
theorem lined_snoc {a : List Int} (h : lined a) : lined (a ++ [(a.length : Int)]) := by
  rw [lined_iff] at *
  intro i x hx
  by_cases hi : i < a.length
  · rw [List.getElem?_append_left hi] at hx; exact h i x hx
  · rw [List.getElem?_append_right (by omega)] at hx
    have : i - a.length = 0 := by
      rcases Nat.eq_zero_or_pos (i - a.length) with h | h
      · exact h
      · rw [List.getElem?_eq_none (by simp; omega)] at hx; cases hx
    rw [this] at hx
    simp at hx
    omega
theorem turn_mem {l : List Int} (h : turnOk l) {m : Int} (h0 : 0 ≤ m) (h1 : m < l.length) : m ∈ l := Classical.byContradiction fun hn => by
  have := nodup_sub (l := m :: l) (m := (List.range l.length).map fun i : Nat => (i : Int)) (List.nodup_cons.2 ⟨hn, h.2⟩) fun x hx => by
    rw [List.mem_map]
    rcases List.mem_cons.1 hx with rfl | hx
    · exact ⟨x.toNat, List.mem_range.2 (by omega), by omega⟩
    · have := h.1.2 x hx
      exact ⟨x.toNat, List.mem_range.2 (by omega), by omega⟩
  simp at this
  omega
theorem turn_perm {l m : List Int} (h : turnOk l) (hp : m.Perm l) : turnOk m := by
  refine ⟨⟨by rw [hp.length_eq]; exact h.1.1, fun x hx => ?_⟩, hp.nodup_iff.2 h.2⟩
  rw [hp.length_eq]; exact h.1.2 x (hp.mem_iff.1 hx)

theorem flush_pre (room : Int) : ∀ (H left : List Int), ∃ c, (flush room left H).1 = left ++ c
  | [], left => ⟨[], by simp [flush]⟩
  | h :: H, left => by
    by_cases c : (h = left.length ∧ lined left) ∨ room < ((H.length + 1 : Nat) : Int)
    · rw [flush_yes c]
      obtain ⟨d, hd⟩ := flush_pre room H (left ++ [h])
      exact ⟨h :: d, by rw [hd]; simp⟩
    · rw [flush_no c]; exact ⟨[], by simp⟩
/-- What stays is little, as long as all is in order. -/
theorem flush_stay (room : Int) : ∀ (H left : List Int), lined (flush room left H).1 → (flush room left H).2 = [] ∨ (((flush room left H).2.length : Int) ≤ room ∧ (flush room left H).2.head? ≠ some ((flush room left H).1.length : Int))
  | [], left, _ => .inl (by simp [flush])
  | h :: H, left, hl => by
    by_cases c : (h = left.length ∧ lined left) ∨ room < ((H.length + 1 : Nat) : Int)
    · rw [flush_yes c] at *
      exact flush_stay room H _ hl
    · rw [flush_no c] at *
      simp only at *
      refine .inr ⟨by simp; omega, fun e => c (.inl ⟨by simpa using e, hl⟩)⟩

def tooMany (l : List Int) (room : Int) (i : Nat) (x : Int) : Prop := room < (((l.take i).countP fun y => decide (x < y) : Nat) : Int)
/-- There is room enough. -/
def okR (l : List Int) (room : Int) : Prop := ∀ (i : Nat) x, l[i]? = some x → ¬ tooMany l room i x

theorem passN_pre {room : Int} {l : List Int} : ∀ {i : Nat}, i ≤ l.length → ∃ c, (passN room l).1 = (passN room (l.take i)).1 ++ c := by
  have : ∀ k i, i + k = l.length → ∃ c, (passN room l).1 = (passN room (l.take i)).1 ++ c := by
    intro k
    induction k with
    | zero => intro i h; exact ⟨[], by rw [List.take_of_length_le (by omega)]; simp⟩
    | succ k ih =>
      intro i h
      obtain ⟨c, hc⟩ := ih (i + 1) (by omega)
      obtain ⟨x, hx⟩ := get_lt (l := l) (i := i) (by omega)
      rw [passN_next hx] at hc
      obtain ⟨d, hd⟩ := flush_pre room (insI x (passN room (l.take i)).2) (passN room (l.take i)).1
      exact ⟨d ++ c, by rw [hc, hd]; simp⟩
  exact fun {i} h => this (l.length - i) i (by omega)
theorem passN_stay {room : Int} (h0 : 0 ≤ room) {l : List Int} {i : Nat} (hi : i ≤ l.length) (hl : lined (passN room (l.take i)).1) : (passN room (l.take i)).2 = [] ∨ (((passN room (l.take i)).2.length : Int) ≤ room ∧ (passN room (l.take i)).2.head? ≠ some ((passN room (l.take i)).1.length : Int)) := by
  cases i with
  | zero => exact .inl (by simp [passN])
  | succ i =>
    obtain ⟨x, hx⟩ := get_lt (l := l) (i := i) (by omega)
    rw [passN_next hx] at *
    exact flush_stay _ _ _ hl

/-- Nothing but the numbers that wait are above. -/
theorem wait_count {l left H : List Int} {i : Nat} {x : Int} (ht : turnOk l) (hx : l[i]? = some x) (hp : (left ++ H).Perm (l.take i)) (hl : lined left) : ((l.take i).countP fun y => decide (x < y)) ≤ H.length := by
  have hxn : x ∉ l.take i := ((nodup_next hx).1 (ht.2.sublist (List.take_sublist _ _))).2
  have hx0 := ht.1.2 x (List.mem_of_getElem? hx)
  have hxl : x ∉ left := fun h => hxn (hp.mem_iff.1 (by simp [h]))
  rw [lined_mem hl] at hxl
  rw [← hp.countP_eq, List.countP_append]
  have h1 : left.countP (fun y => decide (x < y)) = 0 := by
    rw [List.countP_eq_zero]
    intro y hy
    have := (lined_mem hl).1 hy
    simp; omega
  rw [h1, Nat.zero_add]
  exact List.countP_le_length

theorem flush_lined {l : List Int} {room : Int} {i : Nat} (ht : turnOk l) (hok : okR l room) (hi : i + 1 ≤ l.length) : ∀ (H left : List Int), lined left → H.Pairwise (· ≤ ·) → (left ++ H).Perm (l.take (i + 1)) → lined (flush room left H).1
  | [], left, hl, _, _ => by rw [flush_nil]; exact hl
  | h :: H, left, hl, hs, hp => by
    have hnd : (left ++ (h :: H)).Nodup := hp.nodup_iff.2 (ht.2.sublist (List.take_sublist _ _))
    have hmem : ∀ y ∈ h :: H, (left.length : Int) ≤ y := fun y hy => by
      have h1 : y ∈ l := List.mem_of_mem_take (hp.mem_iff.1 (by simp [hy]))
      have h2 := ht.1.2 y h1
      have h3 : y ∉ left := fun h => (List.nodup_append.1 hnd).2.2 y h y hy rfl
      rw [lined_mem hl] at h3
      omega
    by_cases e : h = left.length
    · rw [flush_yes (.inl ⟨e, hl⟩)]
      subst e
      exact flush_lined ht hok hi H _ (lined_snoc hl) (List.pairwise_cons.1 hs).2 (by simpa using hp)
    · by_cases hr : room < ((H.length + 1 : Nat) : Int)
      · exfalso
        have hgt : ∀ y ∈ h :: H, (left.length : Int) < y := fun y hy => by
          have h1 := hmem h (by simp)
          rcases List.mem_cons.1 hy with rfl | hy
          · omega
          · have := (List.pairwise_cons.1 hs).1 y hy; omega
        have hh : h ∈ l := List.mem_of_mem_take (hp.mem_iff.1 (by simp))
        have hm : (left.length : Int) ∈ l := turn_mem ht (by omega) (by have := ht.1.2 h hh; have := hgt h (by simp); omega)
        obtain ⟨k, hk, hkx⟩ := List.mem_iff_getElem.1 hm
        have hkx' : l[k]? = some (left.length : Int) := by rw [List.getElem?_eq_getElem hk, hkx]
        have hki : i + 1 ≤ k := by
          rcases Nat.lt_or_ge k (i + 1) with hlt | hge
          · exfalso
            have : (left.length : Int) ∈ l.take (i + 1) := List.mem_of_getElem? (i := k) (by rw [List.getElem?_take, if_pos hlt]; exact hkx')
            rcases List.mem_append.1 (hp.mem_iff.2 this) with h1 | h1
            · have := (lined_mem hl).1 h1; omega
            · have := hgt _ h1; omega
          · exact hge
        refine hok k _ hkx' ?_
        unfold tooMany
        have h1 : (h :: H).length ≤ (l.take (i + 1)).countP (fun y => decide ((left.length : Int) < y)) := by
          rw [← hp.countP_eq, List.countP_append]
          have : (h :: H).countP (fun y => decide ((left.length : Int) < y)) = (h :: H).length := List.countP_eq_length.2 fun y hy => by simpa using hgt y hy
          omega
        have h2 : (l.take (i + 1)).countP (fun y => decide ((left.length : Int) < y)) ≤ (l.take k).countP (fun y => decide ((left.length : Int) < y)) := by
          have : l.take (i + 1) = (l.take k).take (i + 1) := by rw [List.take_take, Nat.min_eq_left hki]
          rw [this]
          exact (List.take_sublist _ _).countP_le
        simp only [List.length_cons] at h1
        omega
      · rw [flush_no (by rintro (⟨h1, _⟩ | h1); exact e h1; exact hr h1)]; exact hl

theorem pass_lined {l : List Int} {room : Int} (ht : turnOk l) (h0 : 0 ≤ room) : lined (passB l room) ↔ okR l room := by
  constructor
  · intro h i x hx htm
    have hi := (List.getElem?_eq_some_iff.1 hx).1
    have hl : lined (passN room (l.take i)).1 := by
      obtain ⟨c, hc⟩ := passN_pre (room := room) (Nat.le_of_lt hi)
      unfold passB at h
      rw [hc, List.append_assoc] at h
      exact lined_pre h
    have h1 := wait_count ht hx (passN_perm room (l.take i)) hl
    unfold tooMany at htm
    rcases passN_stay h0 (Nat.le_of_lt hi) hl with h2 | ⟨h2, _⟩
    · rw [h2] at h1; simp only [List.length_nil] at h1; omega
    · omega
  · intro hok
    have hall : ∀ i, i ≤ l.length → lined (passN room (l.take i)).1 := by
      intro i
      induction i with
      | zero => intro _; simp [passN, lined]
      | succ i ih =>
        intro hi
        obtain ⟨x, hx⟩ := get_lt (l := l) (i := i) (by omega)
        have hp := passN_perm room (l.take (i + 1))
        rw [passN_next hx] at hp ⊢
        refine flush_lined ht hok hi _ _ (ih (by omega)) (insI_sorted (passN_sorted room (l.take i))) ?_
        exact (flush_perm _ _ _).symm.trans hp
    have hl := hall l.length (Nat.le_refl _)
    have hst := passN_stay h0 (Nat.le_refl _) hl
    rw [List.take_length] at hl hst
    have hp := passN_perm room l
    have hs := passN_sorted room l
    unfold passB
    generalize (passN room l).1 = left at *
    generalize (passN room l).2 = H at *
    rcases hst with hst | ⟨_, hst⟩
    · subst hst; simpa using hl
    · cases H with
      | nil => simpa using hl
      | cons h H =>
        exfalso
        have hnd : (left ++ (h :: H)).Nodup := hp.nodup_iff.2 ht.2
        have hlen := hp.length_eq
        simp at hlen
        have hm : (left.length : Int) ∈ l := turn_mem ht (by omega) (by omega)
        have hmH : (left.length : Int) ∈ h :: H := by
          rcases List.mem_append.1 (hp.mem_iff.2 hm) with h1 | h1
          · have := (lined_mem hl).1 h1; omega
          · exact h1
        have hge : (left.length : Int) ≤ h := by
          have h1 : h ∈ l := hp.mem_iff.1 (by simp)
          have h2 := ht.1.2 h h1
          have h3 : h ∉ left := fun h' => (List.nodup_append.1 hnd).2.2 h h' h (by simp) rfl
          rw [lined_mem hl] at h3
          omega
        rcases List.mem_cons.1 hmH with e | e
        · exact hst (by simp [e])
        · have := (List.pairwise_cons.1 hs).1 _ e
          exact hst (by simp; omega)

end Go.Pc
