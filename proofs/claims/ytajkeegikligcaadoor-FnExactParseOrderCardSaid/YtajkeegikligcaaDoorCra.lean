/- Texts that are read: parts, numbers, lines, orders, plainly. -/
import Derived.Test.YtajkeegikligcaaDoorCqb
import Derived.Lib.SplitLaws
import Derived.Lib.CutLaws
set_option linter.unusedSimpArgs false
set_option linter.unusedVariables false
namespace Go.Pc
open Go Go.Proofs Go.Lib

/-- The parts of a text between the bytes of a kind. -/
def sp (c : UInt8) : List UInt8 → List (List UInt8)
  | [] => [[]]
  | b :: l => if b = c then [] :: sp c l else match sp c l with
    | [] => [[b]]
    | p :: r => (b :: p) :: r
theorem sp_ne (c : UInt8) : ∀ l, sp c l ≠ []
  | [] => by simp [sp]
  | b :: l => by
    unfold sp
    split
    · simp
    · split <;> simp
theorem sp_eq (c : UInt8) (l : List UInt8) : sp c (c :: l) = [] :: sp c l := by rw [sp, if_pos rfl]
theorem sp_other {c b : UInt8} (h : b ≠ c) (l : List UInt8) : ∃ p r, sp c l = p :: r ∧ sp c (b :: l) = (b :: p) :: r := by
  rw [sp, if_neg h]
  cases hs : sp c l with
  | nil => exact absurd hs (sp_ne c l)
  | cons p r => exact ⟨p, r, rfl, rfl⟩
theorem sp_part {c : UInt8} : ∀ {p : List UInt8} (l : List UInt8), c ∉ p → sp c (p ++ c :: l) = p :: sp c l
  | [], l, _ => sp_eq c l
  | b :: p, l, h => by
    have hb : b ≠ c := fun e => h (by simp [e])
    obtain ⟨q, r, h1, h2⟩ := sp_other hb (p ++ c :: l)
    rw [sp_part l (fun hc => h (by simp [hc]))] at h1
    cases h1
    exact h2
theorem sp_none {c : UInt8} : ∀ {p : List UInt8}, c ∉ p → sp c p = [p]
  | [], _ => rfl
  | b :: p, h => by
    have hb : b ≠ c := fun e => h (by simp [e])
    obtain ⟨q, r, h1, h2⟩ := sp_other hb p
    rw [sp_none (fun hc => h (by simp [hc]))] at h1
    cases h1
    exact h2
theorem sp_snoc {c b : UInt8} : ∀ {l : List UInt8} {outs : List (List UInt8)} {cur : List UInt8}, sp c l = outs ++ [cur] → sp c (l ++ [b]) = if b = c then outs ++ [cur, []] else outs ++ [cur ++ [b]]
  | [], outs, cur, h => by
    have : outs = [] ∧ cur = [] := by
      cases outs with
      | nil => simp [sp] at h; exact ⟨rfl, h⟩
      | cons o outs => simp [sp] at h
    obtain ⟨rfl, rfl⟩ := this
    simp only [List.nil_append, sp]
  | x :: l, outs, cur, h => by
    rw [List.cons_append]
    by_cases hx : x = c
    · subst hx
      rw [sp_eq] at h ⊢
      cases outs with
      | nil => simp at h; exact absurd h.2 (sp_ne _ l)
      | cons o outs =>
        simp only [List.cons_append, List.cons.injEq] at h
        rw [sp_snoc h.2, ← h.1]
        split <;> rfl
    · obtain ⟨p, r, h1, h2⟩ := sp_other hx l
      obtain ⟨p', r', h3, h4⟩ := sp_other hx (l ++ [b])
      rw [h2] at h
      rw [h4]
      cases outs with
      | nil =>
        simp only [List.nil_append, List.cons.injEq] at h
        have := sp_snoc (b := b) (outs := []) (cur := p) (l := l) (by rw [h1, h.2]; rfl)
        rw [h3] at this
        rw [← h.1]
        split at this <;> rename_i hb <;> simp [hb] at this ⊢ <;> simp [this]
      | cons o outs =>
        simp only [List.cons_append, List.cons.injEq] at h
        have := sp_snoc (b := b) (outs := p :: outs) (cur := cur) (l := l) (by rw [h1, h.2]; rfl)
        rw [h3] at this
        rw [← h.1]
        split at this <;> rename_i hb <;> simp [hb] at this ⊢ <;> simp [this]
theorem sp_len (c : UInt8) (l : List UInt8) : (sp c l).length ≤ l.length + 1 := by
  induction l with
  | nil => simp [sp]
  | cons b l ih =>
    by_cases hb : b = c
    · rw [hb, sp_eq]; simp; exact ih
    · obtain ⟨p, r, h1, h2⟩ := sp_other hb l
      rw [h1] at ih
      rw [h2]
      simp at ih ⊢
      omega
theorem sp_mem_len {c : UInt8} : ∀ {l : List UInt8} {x : List UInt8}, x ∈ sp c l → x.length ≤ l.length
  | [], x, h => by simp [sp] at h; simp [h]
  | b :: l, x, h => by
    by_cases hb : b = c
    · rw [hb, sp_eq] at h
      rcases List.mem_cons.1 h with rfl | h
      · simp
      · have := sp_mem_len h; simp; omega
    · obtain ⟨p, r, h1, h2⟩ := sp_other hb l
      rw [h2] at h
      rcases List.mem_cons.1 h with rfl | h
      · have := sp_mem_len (c := c) (l := l) (x := p) (by rw [h1]; simp); simp; omega
      · have := sp_mem_len (c := c) (l := l) (x := x) (by rw [h1]; simp [h]); simp; omega

/-! ### The library's words -/

theorem index_one (c : UInt8) : ∀ s : List UInt8, (c ∉ s ∧ Lib.index s [c] = -1) ∨ ∃ p r, s = p ++ c :: r ∧ c ∉ p ∧ Lib.index s [c] = (p.length : Nat)
  | [] => .inl ⟨by simp, by simp [Lib.index]⟩
  | b :: l => by
    by_cases hb : b = c
    · subst hb
      exact .inr ⟨[], l, rfl, by simp, by rw [Lib.index]; simp [List.isPrefixOf]⟩
    · have hp : ([c] : List UInt8).isPrefixOf (b :: l) = false := by simp [List.isPrefixOf, Ne.symm hb]
      have hix : Lib.index (b :: l) [c] = if Lib.index l [c] == -1 then -1 else Lib.index l [c] + 1 := by rw [Lib.index, hp]; simp
      rcases index_one c l with ⟨h1, h2⟩ | ⟨p, r, rfl, h2, h3⟩
      · exact .inl ⟨by simp [h1, Ne.symm hb], by rw [hix, h2]; rfl⟩
      · refine .inr ⟨b :: p, r, rfl, by simp [h2, Ne.symm hb], ?_⟩
        rw [hix, h3, if_neg (by simp)]
        simp
theorem cut_one (c : UInt8) (s : List UInt8) : (c ∉ s ∧ Lib.cut s [c] = (s, [], false)) ∨ ∃ p r, s = p ++ c :: r ∧ c ∉ p ∧ Lib.cut s [c] = (p, r, true) := by
  rcases index_one c s with ⟨h1, h2⟩ | ⟨p, r, rfl, h2, h3⟩
  · exact .inl ⟨h1, by unfold Lib.cut; rw [h2]; rfl⟩
  · refine .inr ⟨p, r, rfl, h2, ?_⟩
    unfold Lib.cut
    rw [h3, if_pos (by omega)]
    simp
theorem splitK_sp (c : UInt8) : ∀ (n : Nat) (s : List UInt8), s.length ≤ n → Lib.splitK [c] 0 (s.count c) s = sp c s := by
  intro n
  induction n with
  | zero => intro s h; have : s = [] := List.length_eq_zero_iff.1 (by omega); subst this; rfl
  | succ n ih =>
    intro s h
    rcases index_one c s with ⟨h1, h2⟩ | ⟨p, r, rfl, h2, h3⟩
    · rw [List.count_eq_zero.2 h1, sp_none h1]; rfl
    · have hc : (p ++ c :: r).count c = r.count c + 1 := by rw [List.count_append, List.count_eq_zero.2 h2, List.count_cons_self]; omega
      rw [hc, Lib.splitK, if_neg (by rw [h3]; simp), h3, sp_part r h2]
      have e : ((p.length : Nat) : Int).toNat = p.length := rfl
      rw [e, Nat.add_zero, List.take_left]
      have e2 : (p ++ c :: r).drop (p.length + [c].length) = r := by
        rw [← List.drop_drop, List.drop_left]; rfl
      rw [e2, ih r (by simp at h; omega)]
theorem strB_data (l : List UInt8) : (strB l).data.toList = l := rfl
theorem data_strB (b : ByteArray) : strB b.data.toList = b := by
  apply ByteArray.ext; simp [strB]
theorem split_sp (c : UInt8) (l : List UInt8) : Lib.splitB (strB [c]) 0 (Lib.countB (strB l) (strB [c])) (strB l) = (sp c l).map strB := by
  have h1 := Lib.splitB_data (strB [c]) 0 (Lib.countB (strB l) (strB [c])) (strB l)
  have h2 : Lib.countB (strB l) (strB [c]) = l.count c := Lib.count_one c l
  rw [h2] at h1 ⊢
  rw [strB_data, strB_data, splitK_sp c _ l (Nat.le_refl _)] at h1
  rw [← h1, List.map_map]
  have : (strB ∘ fun x : ByteArray => x.data.toList) = id := by funext x; exact data_strB x
  rw [this, List.map_id]

/-! ### Numbers -/

def dig (b : UInt8) : Prop := 48 ≤ b.toNat ∧ b.toNat ≤ 57
instance (b : UInt8) : Decidable (dig b) := inferInstanceAs (Decidable (_ ∧ _))
def valT (l : List UInt8) : Nat := l.foldl (fun n b => 10 * n + (b.toNat - 48)) 0
theorem valT_nil : valT [] = 0 := rfl
theorem valT_snoc (l : List UInt8) (b : UInt8) : valT (l ++ [b]) = 10 * valT l + (b.toNat - 48) := by simp [valT]
theorem snoc_ind {α : Type} {p : List α → Prop} (h0 : p []) (h1 : ∀ l a, p l → p (l ++ [a])) : ∀ l, p l := by
  have key : ∀ (n : Nat) (l : List α), l.length = n → p l := by
    intro n
    induction n with
    | zero => intro l h; rw [List.length_eq_zero_iff.1 h]; exact h0
    | succ n ih =>
      intro l h
      have hne : l ≠ [] := by intro e; rw [e] at h; simp at h
      rw [← List.dropLast_concat_getLast hne]
      exact h1 _ _ (ih _ (by rw [List.length_dropLast, h]; rfl))
  exact fun l => key _ l rfl
theorem valT_lt {l : List UInt8} (h : ∀ b ∈ l, dig b) : valT l < 10 ^ l.length := by
  induction l using snoc_ind with
  | h0 => simp [valT]
  | h1 l b ih =>
    have h1 := ih fun x hx => h x (by simp [hx])
    have h2 : dig b := h b (by simp)
    unfold dig at h2
    rw [valT_snoc, List.length_append, List.length_singleton, Nat.pow_succ]
    omega
/-- A text that is a number of at most six digits. -/
def rnOk (l : List UInt8) : Prop := l ≠ [] ∧ l.length ≤ 6 ∧ ¬ (l.head? = some 48 ∧ 1 < l.length) ∧ ∀ b ∈ l, dig b
instance (l : List UInt8) : Decidable (rnOk l) := inferInstanceAs (Decidable (_ ∧ _))
def rn (l : List UInt8) : Int := if rnOk l then (valT l : Nat) else -1
theorem rn_lt {l : List UInt8} (h : rnOk l) : valT l < 1000000 := by
  have h1 := valT_lt h.2.2.2
  have h2 : 10 ^ l.length ≤ 10 ^ 6 := Nat.pow_le_pow_right (by omega) h.2.1
  omega
theorem valT_pos : ∀ {l : List UInt8}, l ≠ [] → l.head? ≠ some 48 → (∀ b ∈ l, dig b) → 1 ≤ valT l := by
  intro l
  induction l using snoc_ind with
  | h0 => intro h; exact absurd rfl h
  | h1 l b ih =>
    intro _ hh hd
    rw [valT_snoc]
    cases l with
    | nil =>
      have h2 : dig b := hd b (by simp)
      unfold dig at h2
      have : b.toNat ≠ 48 := fun e => hh (by simp; exact UInt8.toNat_inj.1 (by simpa using e))
      simp only [valT_nil]
      omega
    | cons x l =>
      have := ih (by simp) (by simpa using hh) fun y hy => hd y (List.mem_append_left _ hy)
      omega
theorem byte_back (b : UInt8) (h : dig b) : UInt8.ofNat (48 + (b.toNat - 48)) = b := by
  unfold dig at h
  rw [show 48 + (b.toNat - 48) = b.toNat by omega]
  simp
theorem dec_val {l : List UInt8} (hne : l ≠ []) (hz : ¬ (l.head? = some 48 ∧ 1 < l.length)) (hd : ∀ b ∈ l, dig b) : decDigits (valT l) = l := by
  induction l using snoc_ind with
  | h0 => exact absurd rfl hne
  | h1 l b ih =>
    have h2 : dig b := hd b (by simp)
    have hb := byte_back b h2
    rw [valT_snoc]
    cases l with
    | nil =>
      unfold dig at h2
      rw [valT_nil, decDigits, dif_pos (by omega)]
      simpa using hb
    | cons x l =>
      have hd' : ∀ y ∈ x :: l, dig y := fun y hy => hd y (List.mem_append_left _ hy)
      have hh : (x :: l).head? ≠ some 48 := fun e => hz ⟨by simpa using e, by simp⟩
      have hp := valT_pos (by simp) hh hd'
      have h3 := ih (by simp) (fun hc => hh hc.1) hd'
      unfold dig at h2
      rw [decDigits, dif_neg (by omega)]
      have e1 : (10 * valT (x :: l) + (b.toNat - 48)) / 10 = valT (x :: l) := by omega
      have e2 : (10 * valT (x :: l) + (b.toNat - 48)) % 10 = b.toNat - 48 := by omega
      rw [e1, e2, h3, hb]
theorem dec_len6 (k : Nat) : ∀ n, n < 10 ^ (k + 1) → (decDigits n).length ≤ k + 1 := by
  induction k with
  | zero => intro n h; rw [decDigits, dif_pos (by omega)]; simp
  | succ k ih =>
    intro n h
    rw [decDigits]
    split
    · simp
    · have := ih (n / 10) (by rw [Nat.pow_succ] at h; omega)
      simp; omega
theorem dec_ne (n : Nat) : decDigits n ≠ [] := by
  rw [decDigits]; split <;> simp
theorem dec_head (n : Nat) (h : 1 ≤ n) : (decDigits n).head? ≠ some 48 := by
  induction n using Nat.strongRecOn with
  | _ n ih =>
    rw [decDigits]
    split
    · rename_i h1
      intro e
      simp only [List.head?_cons, Option.some.injEq] at e
      have := congrArg UInt8.toNat e
      rw [UInt8.toNat_ofNat'] at this
      simp at this
      omega
    · have h2 := ih (n / 10) (by omega) (by omega)
      cases hd : decDigits (n / 10) with
      | nil => exact absurd hd (dec_ne _)
      | cons x l => rw [hd] at h2; simpa using h2
theorem rnOk_of_dec {l : List UInt8} (hd : ∀ b ∈ l, dig b) (h : l = decDigits (valT l)) (hv : valT l ≤ 999999) : rnOk l := by
  refine ⟨by rw [h]; exact dec_ne _, ?_, fun ⟨h1, h2⟩ => ?_, hd⟩
  · rw [h]; exact dec_len6 5 _ (by omega)
  · rw [h] at h1 h2
    by_cases h0 : 1 ≤ valT l
    · exact dec_head _ h0 h1
    · have : valT l = 0 := by omega
      rw [this, decDigits] at h2
      simp at h2
end Go.Pc
