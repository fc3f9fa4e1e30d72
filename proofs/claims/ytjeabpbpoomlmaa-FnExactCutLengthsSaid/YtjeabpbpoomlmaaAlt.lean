/- The abstract logic, eleventh part: how a types' table is held against a program. -/
import Derived.Test.YtjeabpbpoomlmaaAlb
set_option linter.unusedSimpArgs false
set_option linter.unusedVariables false
namespace Go.Pc
open Go

def valB : Value → Value → Bool
  | .int k a, .int k' b => decide (k = k') && decide (a = b)
  | .bool a, .bool b => decide (a = b)
  | .string a, .string b => a.data.toList == b.data.toList
  | .slice none 0 0, .slice none 0 0 => true
  | .pointer none, .pointer none => true
  | .nilFunc, .nilFunc => true
  | .nilIface, .nilIface => true
  | _, _ => false

theorem valB_sound {a b : Value} (h : valB a b = true) : a = b := by
  unfold valB at h
  split at h <;> simp_all
  rename_i x y
  cases x with
  | mk d => cases y with
    | mk e =>
      congr 1

def valsB : List Value → List Value → Bool
  | [], [] => true
  | a :: l, b :: m => valB a b && valsB l m
  | _, _ => false

theorem valsB_sound : ∀ {l m : List Value}, valsB l m = true → l = m
  | [], [], _ => rfl
  | a :: l, b :: m, h => by
    simp only [valsB, Bool.and_eq_true] at h
    rw [valB_sound h.1, valsB_sound h.2]
  | [], _ :: _, h => by cases h
  | _ :: _, [], h => by cases h

def fsB : List Field → List (Nat × TypeId) → Bool
  | [], [] => true
  | f :: l, p :: m => decide (f.offset = p.1) && decide (f.type = p.2) && fsB l m
  | _, _ => false

theorem fsB_sound : ∀ {l : List Field} {m : List (Nat × TypeId)}, fsB l m = true → l.map (fun f => (f.offset, f.type)) = m
  | [], [], _ => rfl
  | f :: l, p :: m, h => by
    simp only [fsB, Bool.and_eq_true, decide_eq_true_eq] at h
    simp only [List.map_cons, fsB_sound h.2, h.1.1, h.1.2]
  | [], _ :: _, h => by cases h
  | _ :: _, [], h => by cases h

def kdB (d : TypeDesc) : Kd → Bool
  | .none => false
  | .flat => match d with | .struct _ | .array .. => false | _ => true
  | .intk k => match d with | .int k' => decide (k' = k) | _ => false
  | .bool => match d with | .bool => true | _ => false
  | .str => match d with | .string => true | _ => false
  | .struct fs => match d with | .struct f => fsB f.toList fs | _ => false
  | .array n e => match d with | .array n' e' => decide (n' = n) && decide (e' = e) | _ => false
  | .slice e => match d with | .slice e' => decide (e' = e) | _ => false

theorem kdB_sound {d : TypeDesc} {k : Kd} (h : kdB d k = true) : KdOk d k := by
  cases k <;> cases d <;> simp_all [kdB, KdOk]
  exact fsB_sound h

def tyB (P : Program) (t : TypeId) (y : Ty) : Bool :=
  !y.kd.ok || match P.info? t, P.underlying t with
    | some i, some d => kdB d y.kd && decide (i.size = y.size) && decide (i.bytes = y.bytes) && (match i.zero with | some z => valsB z.cells.toList y.zero | none => false) && decide (y.zero.length = y.size)
    | _, _ => false

theorem tyB_sound {P : Program} {t : TypeId} {y : Ty} (h : tyB P t y = true) : TyOk P t y := by
  intro hk
  simp only [tyB, hk, Bool.not_true, Bool.false_or] at h
  split at h
  · rename_i i d hi hd
    simp only [Bool.and_eq_true, decide_eq_true_eq] at h
    obtain ⟨⟨⟨⟨h1, h2⟩, h3⟩, h4⟩, h5⟩ := h
    split at h4
    · rename_i z hz
      exact ⟨i, d, z, hi, hd, kdB_sound h1, h2, h3, hz, valsB_sound h4, h5⟩
    · cases h4
  · cases h

theorem ttok {P : Program} {T : TypeId → Ty} (n : Nat) (h : (List.range n).all (fun t => tyB P t (T t)) = true) (hd : ∀ t, n ≤ t → (T t).kd = .none) (he : ∀ t, EqOk P t (T t)) : TTOk P T where
  ty t := by
    by_cases ht : t < n
    · exact tyB_sound (List.all_eq_true.1 h t (List.mem_range.2 ht))
    · intro hk
      rw [hd t (Nat.le_of_not_lt ht)] at hk
      cases hk
  eq := he

theorem eqOk_nil {P : Program} {t : TypeId} {y : Ty} (h : y.eqk = []) : EqOk P t y := fun hn => absurd h hn

theorem km_int {ks : List SK} {xs : List Value} (h : KM (.int :: ks) xs) : ∃ a l, xs = .int .i64 a :: l ∧ KM ks l := by
  cases xs with
  | nil => simp [KM] at h
  | cons v l =>
    cases v <;> try (simp [KM] at h; done)
    rename_i k n
    cases k <;> simp [KM] at h
    exact ⟨_, _, rfl, h⟩
theorem km_bool {ks : List SK} {xs : List Value} (h : KM (.bool :: ks) xs) : ∃ a l, xs = .bool a :: l ∧ KM ks l := by
  cases xs with
  | nil => simp [KM] at h
  | cons v l =>
    cases v <;> try (simp [KM] at h; done)
    exact ⟨_, _, rfl, h⟩
theorem km_nil {xs : List Value} (h : KM [] xs) : xs = [] := by
  cases xs with
  | nil => rfl
  | cons v l => simp [KM] at h

end Go.Pc
