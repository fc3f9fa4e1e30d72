/- Sets told as sums of powers of two, and how few sets of some kind make up a whole one. -/
import Derived.Test.YtkcpcmobmalijaaAlh
set_option linter.unusedSimpArgs false
set_option linter.unusedVariables false
namespace Go.Pc
open Go Go.Proofs

/-- One set is a part of another one. -/
def sub : Nat → Nat → Prop
  | 0, _ => True
  | a + 1, s => (a + 1) % 2 ≤ s % 2 ∧ sub ((a + 1) / 2) (s / 2)
  decreasing_by omega
theorem sub_zero (s : Nat) : sub 0 s := by rw [sub]; trivial
theorem sub_iff {a s : Nat} : sub a s ↔ a % 2 ≤ s % 2 ∧ sub (a / 2) (s / 2) := by
  cases a with
  | zero => simp [sub_zero]
  | succ a => rw [sub]
theorem sub_le : ∀ {a s : Nat}, sub a s → a ≤ s
  | 0, _, _ => Nat.zero_le _
  | a + 1, s, h => by
    rw [sub] at h
    have := sub_le h.2
    omega
  decreasing_by omega
theorem sub_refl : ∀ (a : Nat), sub a a
  | 0 => sub_zero 0
  | a + 1 => by rw [sub]; exact ⟨Nat.le_refl _, sub_refl _⟩
  decreasing_by omega
theorem and_step (a b : Nat) : a &&& b = 2 * (a / 2 &&& b / 2) + (if a % 2 = 1 ∧ b % 2 = 1 then 1 else 0) := by
  have h1 : (a &&& b) / 2 = a / 2 &&& b / 2 := Nat.and_div_two
  have h2 : (a &&& b) % 2 = 1 ↔ a % 2 = 1 ∧ b % 2 = 1 := Nat.and_mod_two_eq_one
  rw [← h1]
  split
  · rename_i h; have := h2.2 h; omega
  · rename_i h
    have : ¬ (a &&& b) % 2 = 1 := fun hh => h (h2.1 hh)
    omega
theorem sub_and : ∀ (a s : Nat), sub (a &&& s) s
  | 0, s => by rw [Nat.zero_and]; exact sub_zero s
  | a + 1, s => by
    rw [sub_iff, Nat.and_div_two]
    refine ⟨?_, sub_and _ _⟩
    have h2 : ((a + 1) &&& s) % 2 = 1 ↔ (a + 1) % 2 = 1 ∧ s % 2 = 1 := Nat.and_mod_two_eq_one
    rcases Nat.mod_two_eq_zero_or_one ((a + 1) &&& s) with h | h
    · omega
    · have := (h2.1 h).2; omega
  decreasing_by omega
theorem and_sub : ∀ {a s : Nat}, sub a s → a &&& s = a
  | 0, s, _ => Nat.zero_and s
  | a + 1, s, h => by
    have h1 := sub_iff.1 h
    rw [and_step, and_sub h1.2]
    split <;> omega
  decreasing_by omega
/-- The part that stays is a part, and what is between goes. -/
theorem sub_next : ∀ {g s : Nat}, sub g s → 0 < g → sub ((g - 1) &&& s) s ∧ ((g - 1) &&& s) < g ∧ ∀ a, sub a s → a < g → a ≤ ((g - 1) &&& s)
  | 0, s, _, h => absurd h (by omega)
  | g + 1, s, hg, _ => by
    refine ⟨sub_and _ _, by have := Nat.and_le_left (n := g + 1 - 1) (m := s); omega, fun a ha hag => ?_⟩
    have h1 := sub_iff.1 hg
    have h2 := sub_iff.1 ha
    rw [and_step]
    rcases Nat.mod_two_eq_zero_or_one (g + 1) with c | c
    · have hp : 0 < (g + 1) / 2 := by omega
      have ih := (sub_next h1.2 hp).2.2 (a / 2) h2.2 (by omega)
      have e : (g + 1 - 1) / 2 = (g + 1) / 2 - 1 := by omega
      rw [e]
      split <;> omega
    · have e : (g + 1 - 1) / 2 = (g + 1) / 2 := by omega
      rw [e, and_sub h1.2]
      split <;> omega
  decreasing_by omega
/-- The sum of the numbers whose indices are in a set. -/
def sumS : List Int → Nat → Int
  | [], _ => 0
  | x :: l, s => (if s % 2 = 1 then x else 0) + sumS l (s / 2)
theorem sumS_zero : ∀ (l : List Int), sumS l 0 = 0
  | [] => rfl
  | x :: l => by rw [sumS, sumS_zero l]; simp
theorem sumS_rest : ∀ (l : List Int) {a s : Nat}, sub a s → sumS l s = sumS l a + sumS l (s - a)
  | [], _, _, _ => rfl
  | x :: l, a, s, h => by
    have h1 := sub_iff.1 h
    have hl := sub_le h1.2
    have e : (s - a) / 2 = s / 2 - a / 2 := by omega
    rw [sumS, sumS, sumS, e, sumS_rest l h1.2]
    have e2 : (s - a) % 2 = s % 2 - a % 2 := by omega
    rw [e2]
    rcases Nat.mod_two_eq_zero_or_one a with c1 | c1 <;> rcases Nat.mod_two_eq_zero_or_one s with c2 | c2
    all_goals first | omega | (simp [c1, c2]; omega)
theorem sumS_all : ∀ (l : List Int), sumS l (2 ^ l.length - 1) = l.sum
  | [] => rfl
  | x :: l => by
    have hp : 0 < 2 ^ l.length := Nat.two_pow_pos _
    have e1 : (2 ^ (l.length + 1) - 1) / 2 = 2 ^ l.length - 1 := by rw [Nat.pow_succ]; omega
    have e2 : (2 ^ (l.length + 1) - 1) % 2 = 1 := by rw [Nat.pow_succ]; omega
    rw [List.length_cons, sumS, e1, e2, sumS_all l]
    simp
theorem sumS_nn : ∀ (l : List Int), (∀ x ∈ l, 0 ≤ x) → ∀ s, 0 ≤ sumS l s
  | [], _, _ => Int.le_refl _
  | x :: l, h, s => by
    have h1 := sumS_nn l (fun y hy => h y (by simp [hy])) (s / 2)
    have h2 := h x (by simp)
    rw [sumS]
    split <;> omega
theorem sumS_bd : ∀ (l : List Int) (m : Int), 0 ≤ m → (∀ x ∈ l, x ≤ m) → ∀ s, sumS l s ≤ m * l.length
  | [], m, _, _, _ => by simp [sumS]
  | x :: l, m, h0, h, s => by
    have h1 := sumS_bd l m h0 (fun y hy => h y (by simp [hy])) (s / 2)
    have h2 := h x (by simp)
    rw [sumS, List.length_cons]
    have e : m * ((l.length + 1 : Nat) : Int) = m * l.length + m := by rw [Int.natCast_add, Int.mul_add]; simp
    rw [e]
    split <;> omega

/-- Some number of sets of a kind that make up a set. -/
inductive Div (F : Nat → Prop) : Nat → Nat → Prop
  | zero : Div F 0 0
  | more (s a c : Nat) (ha : sub a s) (h0 : 0 < a) (hF : F a) (h : Div F (s - a) c) : Div F s (c + 1)
/-- The least number. -/
def LeastD (F : Nat → Prop) (s m : Nat) : Prop := Div F s m ∧ ∀ c, Div F s c → m ≤ c
theorem LeastD.uniq {F : Nat → Prop} {s m m' : Nat} (h : LeastD F s m) (h' : LeastD F s m') : m = m' := Nat.le_antisymm (h.2 _ h'.1) (h'.2 _ h.1)
theorem LeastD.zero (F : Nat → Prop) : LeastD F 0 0 := ⟨.zero, fun _ _ => Nat.zero_le _⟩
theorem LeastD.pos {F : Nat → Prop} {s m : Nat} (h : LeastD F s m) (hs : 0 < s) : 0 < m := by
  rcases Nat.eq_zero_or_pos m with e | e
  · subst e
    have := h.1
    cases this
    omega
  · exact e
theorem Div.pos {F : Nat → Prop} {s c : Nat} (h : Div F s c) (hs : 0 < s) : ∃ a c', sub a s ∧ 0 < a ∧ F a ∧ Div F (s - a) c' ∧ c = c' + 1 := by
  cases h with
  | zero => omega
  | more _ a c ha h0 hF h => exact ⟨a, c, ha, h0, hF, h, rfl⟩
theorem div_all {F : Nat → Prop} : ∀ (n : Nat), (∀ i, i < n → F (2 ^ i)) → ∀ s, s < 2 ^ n → ∃ c, c ≤ n ∧ Div F s c
  | 0, _, s, hs => ⟨0, Nat.le_refl _, by have : s = 0 := by simpa using hs
                                         subst this; exact .zero⟩
  | n + 1, hF, s, hs => by
    rcases Nat.lt_or_ge s (2 ^ n) with h | h
    · obtain ⟨c, h1, h2⟩ := div_all n (fun i hi => hF i (by omega)) s h
      exact ⟨c, by omega, h2⟩
    · rw [Nat.pow_succ] at hs
      obtain ⟨c, h1, h2⟩ := div_all n (fun i hi => hF i (by omega)) (s - 2 ^ n) (by omega)
      refine ⟨c + 1, by omega, .more s (2 ^ n) c ?_ (Nat.two_pow_pos n) (hF n (by omega)) h2⟩
      have hsub : ∀ (n s : Nat), 2 ^ n ≤ s → s < 2 ^ n * 2 → sub (2 ^ n) s := by
        intro n
        induction n with
        | zero =>
          intro s h1 h2
          have : s = 1 := by omega
          subst this
          exact sub_refl 1
        | succ n ih =>
          intro s h1 h2
          rw [Nat.pow_succ] at h1 h2
          rw [sub_iff, Nat.pow_succ, Nat.mul_mod_left, Nat.mul_div_cancel _ (by omega)]
          exact ⟨Nat.zero_le _, ih (s / 2) (by omega) (by omega)⟩
      exact hsub n s h hs
theorem leastD_ex {F : Nat → Prop} {s : Nat} (h : ∃ c, Div F s c) : ∃ m, LeastD F s m := by
  obtain ⟨c, h⟩ := h
  induction c using Nat.strongRecOn with
  | _ c ih =>
    rcases Classical.em (∃ c', c' < c ∧ Div F s c') with h1 | h1
    · obtain ⟨c', h2, h3⟩ := h1
      exact ih c' h2 h3
    · exact ⟨c, h, fun c' hc' => Nat.le_of_not_lt fun hl => h1 ⟨c', hl, hc'⟩⟩

theorem wrap_nat {x : Nat} (h : x < 2 ^ 62) : IntKind.i64.wrap (x : Int) = x := wrap64 _ (by omega) (by omega)
theorem ofInt_nat (a : Nat) : BitVec.ofInt IntKind.i64.bits (a : Int) = BitVec.ofNat 64 a := by
  show BitVec.ofInt 64 (a : Int) = _
  exact BitVec.ofInt_natCast 64 a
theorem ofNat_to {a : Nat} (h : a < 2 ^ 62) : (BitVec.ofNat 64 a).toNat = a := by
  rw [BitVec.toNat_ofNat, Nat.mod_eq_of_lt (by omega)]
theorem and_val {a b : Nat} (ha : a < 2 ^ 62) (hb : b < 2 ^ 62) : IntKind.i64.wrap ((BitVec.ofInt IntKind.i64.bits (a : Int) &&& BitVec.ofInt IntKind.i64.bits (b : Int)).toNat) = ((a &&& b : Nat) : Int) := by
  rw [ofInt_nat, ofInt_nat]
  have e : (BitVec.ofNat 64 a &&& BitVec.ofNat 64 b).toNat = a &&& b := by rw [BitVec.toNat_and, ofNat_to ha, ofNat_to hb]
  have h1 := Nat.and_le_left (n := a) (m := b)
  show IntKind.i64.wrap (((BitVec.ofNat 64 a &&& BitVec.ofNat 64 b).toNat : Nat) : Int) = _
  rw [e]
  exact wrap_nat (by omega)
theorem andNot_val {a b : Nat} (ha : a < 2 ^ 62) (h : sub b a) : IntKind.i64.wrap ((BitVec.ofInt IntKind.i64.bits (a : Int) &&& ~~~ BitVec.ofInt IntKind.i64.bits (b : Int)).toNat) = ((a - b : Nat) : Int) := by
  have hl := sub_le h
  rw [ofInt_nat, ofInt_nat]
  have e : (BitVec.ofNat 64 a &&& ~~~ BitVec.ofNat 64 b).toNat = a - b := by
    have h1 : BitVec.ofNat 64 b &&& BitVec.ofNat 64 a = BitVec.ofNat 64 b := by
      apply BitVec.eq_of_toNat_eq
      rw [BitVec.toNat_and, ofNat_to ha, ofNat_to (by omega), and_sub h]
    have h2 : (BitVec.ofNat 64 a &&& ~~~ BitVec.ofNat 64 b) + BitVec.ofNat 64 b = BitVec.ofNat 64 a := by
      rw [BitVec.add_eq_or_of_and_eq_zero]
      · apply BitVec.eq_of_getLsbD_eq
        intro i hi
        have h3 := congrArg (fun x => BitVec.getLsbD x i) h1
        simp only [BitVec.getLsbD_and] at h3
        simp only [BitVec.getLsbD_or, BitVec.getLsbD_and, BitVec.getLsbD_not, hi, decide_true, Bool.true_and]
        cases hA : (BitVec.ofNat 64 a).getLsbD i <;> cases hB : (BitVec.ofNat 64 b).getLsbD i <;> simp_all
      · apply BitVec.eq_of_getLsbD_eq
        intro i hi
        simp only [BitVec.getLsbD_and, BitVec.getLsbD_not, hi, decide_true, Bool.true_and]
        cases hA : (BitVec.ofNat 64 a).getLsbD i <;> cases hB : (BitVec.ofNat 64 b).getLsbD i <;> simp
    have h4 : BitVec.ofNat 64 a &&& ~~~ BitVec.ofNat 64 b = BitVec.ofNat 64 a - BitVec.ofNat 64 b := by
      have h5 := congrArg (· - BitVec.ofNat 64 b) h2
      simp only [BitVec.add_sub_cancel] at h5
      exact h5
    rw [h4, BitVec.toNat_sub_of_le, ofNat_to ha, ofNat_to (by omega)]
    rw [BitVec.le_def, ofNat_to ha, ofNat_to (by omega)]
    exact hl
  show IntKind.i64.wrap (((BitVec.ofNat 64 a &&& ~~~ BitVec.ofNat 64 b).toNat : Nat) : Int) = _
  rw [e]
  exact wrap_nat (by omega)
theorem shl_val {n : Nat} (h : n ≤ 40) : IntKind.i64.wrap (1 * 2 ^ min n IntKind.i64.bits) = ((2 ^ n : Nat) : Int) := by
  have e : min n IntKind.i64.bits = n := Nat.min_eq_left (by show n ≤ 64; omega)
  rw [e, Int.one_mul]
  have h1 : (2 : Nat) ^ n ≤ 2 ^ 40 := Nat.pow_le_pow_right (by omega) h
  have : ((2 : Int) ^ n) = ((2 ^ n : Nat) : Int) := by rw [Int.natCast_pow]; rfl
  rw [this]
  exact wrap_nat (by omega)
theorem qBin_and {T : TypeId → Ty} (t : TypeId) (k : IntKind) (a b : Int) (K : AV → Prop) : qBin T .and t (.val (.int k a)) (.val (.int k b)) K = K (.val (.int k (k.wrap (BitVec.ofInt k.bits a &&& BitVec.ofInt k.bits b).toNat))) := by simp [qBin]
theorem qBin_andNot {T : TypeId → Ty} (t : TypeId) (k : IntKind) (a b : Int) (K : AV → Prop) : qBin T .andNot t (.val (.int k a)) (.val (.int k b)) K = K (.val (.int k (k.wrap (BitVec.ofInt k.bits a &&& ~~~ BitVec.ofInt k.bits b).toNat))) := by simp [qBin]
theorem qBin_shl {T : TypeId → Ty} (t : TypeId) (k k' : IntKind) (a b : Int) (K : AV → Prop) : qBin T .shl t (.val (.int k a)) (.val (.int k' b)) K = Req (0 ≤ b) K (.val (.int k (k.wrap (a * 2 ^ min b.toNat k.bits)))) := by simp [qBin, Req]
theorem qBin_shr {T : TypeId → Ty} (t : TypeId) (k k' : IntKind) (a b : Int) (K : AV → Prop) : qBin T .shr t (.val (.int k a)) (.val (.int k' b)) K = Req (0 ≤ b) K (.val (.int k (a / 2 ^ min b.toNat k.bits))) := by simp [qBin, Req]
theorem DBka0 : type_of% @qBin_and ∧ type_of% @qBin_andNot ∧ type_of% @qBin_shl ∧ type_of% @qBin_shr := ⟨@qBin_and, @qBin_andNot, @qBin_shl, @qBin_shr⟩

end Go.Pc
