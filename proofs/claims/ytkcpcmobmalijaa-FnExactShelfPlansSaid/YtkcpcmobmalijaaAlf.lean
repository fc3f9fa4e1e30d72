/- The abstract logic, last part: values with all their memory in blocks of its own: made, joined, taken apart, read, written, made immutable. -/
import Derived.Test.YtkcpcmobmalijaaAls
set_option linter.unusedSimpArgs false
set_option linter.unusedVariables false
namespace Go.Pc
open Go

section
variable {P : Program} {T : TypeId → Ty} {fx bl : List Nat}

/-! ### Values and their memory -/

/-- A row of which a column is told by exact values. -/
def rowsK (j0 : Nat) (es : List (List AV)) (kv : List Value) : List (List AV) := List.zipWith (fun e v => e.set j0 (.val v)) es kv
/-- The parts that hang there. -/
def itemsK (j0 : Nat) (es : List (List AV)) (kv : List Value) : List (Value × AV) := List.zipWith (fun e v => (v, e.getD j0 .any)) es kv

theorem zw_get {α β γ : Type} {f : α → β → γ} {l : List α} {m : List β} {i : Nat} {a : α} {b : β} (h1 : l[i]? = some a) (h2 : m[i]? = some b) : (List.zipWith f l m)[i]? = some (f a b) := by
  simp [List.getElem?_zipWith, h1, h2]

theorem TR.val_inv {w : World} {S : Nat → Prop} {v u : Value} (h : TR w S v (.val u)) : v = u := by cases h; rfl

/-- Parts are hung into a row. -/
theorem TR.graft {w : World} {S1 : Nat → Prop} {v : Value} {j0 : Nat} {es : List (List AV)} {kv : List Value} (hl : kv.length = es.length) (h1 : TR w S1 v (.sl (rowsK j0 es kv))) {S2 : Nat → Prop} (h2 : Forest w S2 (itemsK j0 es kv)) (hd : ∀ b, S1 b → S2 b → False) :
    TR w (fun b => S1 b ∨ S2 b) v (.sl es) := by
  obtain ⟨G, g1, g2, g3⟩ := h2
  have hlen : (rowsK j0 es kv).length = es.length := by simp [rowsK, hl]
  cases h1' : es with
  | nil =>
    subst h1'
    have e : rowsK j0 [] kv = [] := rfl
    rw [e] at h1
    cases h1 with
    | nil => exact .nil _ _ _
    | sl _ _ _ _ _ _ _ _ _ _ _ hn h0 => simp at hn; omega
  | cons e0 es0 =>
  rw [← h1']
  have hpos : 0 < es.length := by rw [h1']; simp
  generalize hr : rowsK j0 es kv = rows at h1 hlen
  cases h1 with
  | nil => simp at hlen; omega
  | sl S b o k n c rows cv cs e F hn h0 hc hk hb hrl hh hsz hcell hF hdis hread =>
    have hget : ∀ {i : Nat} {e : List AV}, es[i]? = some e → ∃ u, kv[i]? = some u ∧ rows[i]? = some (e.set j0 (.val u)) := fun {i e} he => by
      have hi := (List.getElem?_eq_some_iff.1 he).1
      obtain ⟨u, hu⟩ : ∃ u, kv[i]? = some u := ⟨_, List.getElem?_eq_getElem (by omega)⟩
      exact ⟨u, hu, by subst hr; exact zw_get he hu⟩
    have hel : ∀ (i : Nat) e, es[i]? = some e → e.length = k := fun i e he => by
      obtain ⟨u, _, h⟩ := hget he
      simpa using hrl i _ h
    refine .sl _ b o k n c es cv cs e (fun i j y => (j ≠ j0 ∧ F i j y) ∨ (j = j0 ∧ G i y)) (by omega) h0 hc hk (.inl hb) hel hh hsz (fun i j e x he hx => ?_) (fun i j y h => ?_) (fun i j i' j' y h h' => ?_) (fun i j e x he hx => ?_)
    · obtain ⟨u, _, h⟩ := hget he
      have hj : j < (e.set j0 (.val u)).length := by simpa using (List.getElem?_eq_some_iff.1 hx).1
      exact hcell i j _ _ h (List.getElem?_eq_getElem hj)
    · rcases h with ⟨_, h⟩ | ⟨_, h⟩
      · exact ⟨.inl (hF i j y h).1, (hF i j y h).2⟩
      · exact ⟨.inr (g1 i y h), fun e => hd b hb (e ▸ g1 i y h)⟩
    · rcases h with ⟨n1, h⟩ | ⟨e1, h⟩ <;> rcases h' with ⟨n2, h'⟩ | ⟨e2, h'⟩
      · exact hdis i j i' j' y h h'
      · exact (hd y (hF i j y h).1 (g1 i' y h')).elim
      · exact (hd y (hF i' j' y h').1 (g1 i y h)).elim
      · exact ⟨g2 i i' y h h', by omega⟩
    · obtain ⟨u, hu, h⟩ := hget he
      by_cases hj : j = j0
      · subst hj
        have hjl := (List.getElem?_eq_some_iff.1 hx).1
        have h3 := hread i j _ _ h (by rw [List.getElem?_set_self hjl])
        rw [h3.val_inv]
        refine (g3 i u x ?_).sub fun b hb => .inr ⟨rfl, hb⟩
        rw [itemsK, zw_get he hu, List.getD_eq_getElem?_getD, hx]; rfl
      · exact (hread i j _ x h (by rw [List.getElem?_set_ne (fun e => hj e.symm)]; exact hx)).sub fun b hb => .inl ⟨hj, hb⟩

/-- And taken off it. -/
theorem TR.ungraft {w : World} {S : Nat → Prop} {v : Value} {j0 : Nat} {es : List (List AV)} (h : TR w S v (.sl es)) (hj : ∀ (i j : Nat) e x, es[i]? = some e → e[j]? = some x → j ≠ j0 → ∃ u, x = .val u) (hj0 : ∀ (i : Nat) e, es[i]? = some e → j0 < e.length) :
    ∃ (kv : List Value) (S1 S2 : Nat → Prop), kv.length = es.length ∧ TR w S1 v (.sl (rowsK j0 es kv)) ∧ Forest w S2 (itemsK j0 es kv) ∧ (∀ b, S1 b → S2 b → False) ∧ (∀ b, S1 b → S b) ∧ ∀ b, S2 b → S b := by
  cases h with
  | nil => exact ⟨[], fun _ => False, fun _ => False, rfl, .nil _ _ _, ⟨fun _ _ => False, fun _ _ h => h, fun _ _ _ h => h.elim, fun m v x h => by simp [itemsK] at h⟩, fun _ h => h.elim, fun _ h => h.elim, fun _ h => h.elim⟩
  | sl S b o k n c es cv cs e F hn h0 hc hk hb hl hh hsz hcell hF hdis hread =>
    refine ⟨(List.range es.length).map fun i => cv i j0, fun y => y = b, fun y => S y ∧ y ≠ b, by simp, ?_, ?_, fun y h h' => h'.2 h, fun y h => h ▸ hb, fun y h => h.1⟩
    · have hget : ∀ {i : Nat} {r : List AV}, (rowsK j0 es ((List.range es.length).map fun i => cv i j0))[i]? = some r → ∃ e, es[i]? = some e ∧ r = e.set j0 (.val (cv i j0)) := fun {i r} h => by
        rw [rowsK, List.getElem?_zipWith] at h
        cases he : es[i]? with
        | none => simp [he] at h
        | some e =>
          have hi := (List.getElem?_eq_some_iff.1 he).1
          simp [he, List.getElem?_range hi] at h
          exact ⟨e, rfl, h.symm⟩
      refine .sl _ b o k n c _ cv cs e (fun _ _ _ => False) (by simp [rowsK, hn]) h0 hc hk rfl (fun i r hr => ?_) hh hsz (fun i j r x hr hx => ?_) (fun _ _ _ h => h.elim) (fun _ _ _ _ _ h => h.elim) (fun i j r x hr hx => ?_)
      · obtain ⟨e, he, rfl⟩ := hget hr
        simpa using hl i e he
      · obtain ⟨e, he, rfl⟩ := hget hr
        have hj : j < e.length := by simpa using (List.getElem?_eq_some_iff.1 hx).1
        exact hcell i j e _ he (List.getElem?_eq_getElem hj)
      · obtain ⟨e, he, rfl⟩ := hget hr
        by_cases hjj : j = j0
        · subst hjj
          rw [List.getElem?_set_self (hj0 i e he)] at hx
          cases hx
          exact .val _ _
        · rw [List.getElem?_set_ne (fun e => hjj e.symm)] at hx
          obtain ⟨u, rfl⟩ := hj i j e x he hx hjj
          have := (hread i j e _ he hx).val_inv
          rw [this]
          exact .val _ _
    · refine ⟨fun i y => F i j0 y, fun i y h => hF i j0 y h, fun i i' y h h' => (hdis i j0 i' j0 y h h').1, fun i u x h => ?_⟩
      rw [itemsK, List.getElem?_zipWith] at h
      cases he : es[i]? with
      | none => simp [he] at h
      | some e =>
        have hi := (List.getElem?_eq_some_iff.1 he).1
        simp [he, List.getElem?_range hi] at h
        obtain ⟨rfl, h⟩ := h
        refine hread i j0 e x he ?_
        rw [List.getElem?_eq_getElem (hj0 i e he)] at h ⊢
        simpa using h

theorem Forest.one {w : World} {S : Nat → Prop} {v : Value} {x : AV} : Forest w S [(v, x)] ↔ TR w S v x := by
  constructor
  · rintro ⟨F, h1, _, h3⟩
    exact (h3 0 v x rfl).sub (h1 0)
  · intro h
    refine ⟨fun m b => m = 0 ∧ S b, fun _ _ h => h.2, fun _ _ _ h h' => by omega, fun m u y hm => ?_⟩
    cases m with
    | zero => simp at hm; obtain ⟨rfl, rfl⟩ := hm; exact h.sub fun b hb => ⟨rfl, hb⟩
    | succ m => simp at hm

theorem Forest.sub {w : World} {S S' : Nat → Prop} {l : List (Value × AV)} (h : Forest w S l) (hs : ∀ b, S b → S' b) : Forest w S' l := by
  obtain ⟨F, h1, h2, h3⟩ := h
  exact ⟨F, fun m x h => hs x (h1 m x h), h2, h3⟩

theorem Forest.nil {w : World} {S : Nat → Prop} : Forest w S [] := ⟨fun _ _ => False, fun _ _ h => h.elim, fun _ _ _ h => h.elim, fun m v x h => by simp at h⟩

theorem Forest.append {w : World} {S1 S2 : Nat → Prop} {l1 l2 : List (Value × AV)} (h1 : Forest w S1 l1) (h2 : Forest w S2 l2) (hd : ∀ b, S1 b → S2 b → False) : Forest w (fun b => S1 b ∨ S2 b) (l1 ++ l2) := by
  obtain ⟨F, f1, f2, f3⟩ := h1
  obtain ⟨G, g1, g2, g3⟩ := h2
  refine ⟨fun m b => (m < l1.length ∧ F m b) ∨ (l1.length ≤ m ∧ G (m - l1.length) b), fun m x h => ?_, fun m m' x h h' => ?_, fun m v x h => ?_⟩
  · rcases h with ⟨_, h⟩ | ⟨_, h⟩
    · exact .inl (f1 _ _ h)
    · exact .inr (g1 _ _ h)
  · rcases h with ⟨n1, h⟩ | ⟨n1, h⟩ <;> rcases h' with ⟨n2, h'⟩ | ⟨n2, h'⟩
    · exact f2 _ _ _ h h'
    · exact (hd x (f1 _ _ h) (g1 _ _ h')).elim
    · exact (hd x (f1 _ _ h') (g1 _ _ h)).elim
    · have := g2 _ _ _ h h'; omega
  · by_cases hm : m < l1.length
    · rw [List.getElem?_append_left hm] at h
      exact (f3 m v x h).sub fun b hb => .inl ⟨hm, hb⟩
    · rw [List.getElem?_append_right (by omega)] at h
      exact (g3 _ v x h).sub fun b hb => .inr ⟨by omega, hb⟩

/-- One part is taken out. -/
theorem Forest.out {w : World} {S : Nat → Prop} {l : List (Value × AV)} (h : Forest w S l) {i : Nat} {v : Value} {x : AV} (hi : l[i]? = some (v, x)) :
    ∃ S1 S2, Forest w S1 (l.set i (v, .val v)) ∧ TR w S2 v x ∧ (∀ b, S1 b → S2 b → False) ∧ (∀ b, S1 b → S b) ∧ ∀ b, S2 b → S b := by
  obtain ⟨F, f1, f2, f3⟩ := h
  refine ⟨fun b => ∃ m, m ≠ i ∧ F m b, F i, ⟨fun m b => m ≠ i ∧ F m b, fun m b h => ⟨m, h⟩, fun m m' b h h' => f2 m m' b h.2 h'.2, fun m u y hm => ?_⟩, f3 i v x hi, fun b ⟨m, h, h1⟩ h2 => h (f2 _ _ _ h1 h2), fun b ⟨m, _, h⟩ => f1 m b h, f1 i⟩
  by_cases e : i = m
  · subst e
    rw [List.getElem?_set_self (List.getElem?_eq_some_iff.1 hi).1] at hm
    cases hm
    exact .val _ _
  · rw [List.getElem?_set_ne e] at hm
    exact (f3 m u y hm).sub fun b hb => ⟨fun e' => e e'.symm, hb⟩

/-- And put in again. -/
theorem Forest.put {w : World} {S1 S2 : Nat → Prop} {l : List (Value × AV)} (h : Forest w S1 l) {i : Nat} {v u : Value} {x : AV} (hi : l[i]? = some (v, .val u)) (h2 : TR w S2 v x) (hd : ∀ b, S1 b → S2 b → False) : Forest w (fun b => S1 b ∨ S2 b) (l.set i (v, x)) := by
  obtain ⟨F, f1, f2, f3⟩ := h
  refine ⟨fun m b => (m ≠ i ∧ F m b) ∨ (m = i ∧ S2 b), fun m b h => ?_, fun m m' b h h' => ?_, fun m u y hm => ?_⟩
  · rcases h with ⟨_, h⟩ | ⟨_, h⟩
    · exact .inl (f1 _ _ h)
    · exact .inr h
  · rcases h with ⟨n1, h⟩ | ⟨n1, h⟩ <;> rcases h' with ⟨n2, h'⟩ | ⟨n2, h'⟩
    · exact f2 _ _ _ h h'
    · exact (hd b (f1 _ _ h) h').elim
    · exact (hd b (f1 _ _ h') h).elim
    · omega
  · by_cases e : i = m
    · subst e
      rw [List.getElem?_set_self (List.getElem?_eq_some_iff.1 hi).1] at hm
      cases hm
      exact h2.sub fun b hb => .inr ⟨rfl, hb⟩
    · rw [List.getElem?_set_ne e] at hm
      exact (f3 m u y hm).sub fun b hb => .inl ⟨fun e' => e e'.symm, hb⟩

/-! ### States -/

/-- Parts with memory of their own are told anew; nothing else changes. -/
theorem HR.refor {w : World} {ρ : Env} {L L' : List OB} (h : HR w ρ L) (hl : L'.length = L.length) (hn : ∀ (r : Nat) o, L'[r]? = some o → L[r]? = some o ∨ (o = .dead ∧ ∃ S l, L[r]? = some (.forest S l)) ∨ ∃ S l, o = .forest S l)
    (hf : ∀ (r : Nat) S l, L'[r]? = some (.forest S l) → Forest w S l ∧ (∀ b, S b → ρ.T b) ∧ (L[r]? = some .dead ∨ ∃ S l, L[r]? = some (.forest S l)))
    (hd : ∀ (r r' : Nat) S S' l l' b, L'[r]? = some (.forest S l) → L'[r']? = some (.forest S' l') → S b → S' b → r = r') : HR w ρ L' where
  len := by rw [hl]; exact h.len
  xlt := h.xlt
  disj := h.disj
  inj := h.inj
  ent r o l h1 h2 := by
    rcases hn r o h1 with h3 | ⟨rfl, S, l', h3⟩ | ⟨S, l', rfl⟩
    · exact h.ent r o l h3 h2
    · exact (h.ent r _ l h3 h2).1
    · obtain ⟨g1, _, g3 | ⟨S2, l2, g3⟩⟩ := hf r S l' h1
      · exact ⟨h.ent r _ l g3 h2, g1⟩
      · exact ⟨(h.ent r _ l g3 h2).1, g1⟩
  t := ⟨h.t.lt, h.t.dl, fun r S l b h1 hb => (hf r S l h1).2.1 b hb, hd⟩

theorem Rel.refor {ρ : Env} {s : AS} {a : Act} {w : World} (h : Rel ρ s a w) {L' : List OB} (hh : HR w ρ L') : Rel ρ { s with L := L' } a w := ⟨h.dfr, h.size, h.tm, hh⟩

theorem HR.join {w : World} {ρ : Env} {L : List OB} (h : HR w ρ L) {r1 r2 : Nat} (hne : r1 ≠ r2) {S1 S2 S' : Nat → Prop} {l1 l2 l' : List (Value × AV)} (h1 : L[r1]? = some (.forest S1 l1)) (h2 : L[r2]? = some (.forest S2 l2))
    (hs : ∀ b, S' b → S1 b ∨ S2 b) (hf : Forest w S' l') : HR w ρ ((L.set r1 (.forest S' l')).set r2 .dead) := by
  have k1 := (List.getElem?_eq_some_iff.1 h1).1
  have k2 := (List.getElem?_eq_some_iff.1 h2).1
  have get : ∀ (r : Nat) o, ((L.set r1 (.forest S' l')).set r2 .dead)[r]? = some o → (r = r2 ∧ o = .dead) ∨ (r = r1 ∧ o = .forest S' l') ∨ (r ≠ r1 ∧ r ≠ r2 ∧ L[r]? = some o) := fun r o ho => by
    by_cases e2 : r2 = r
    · subst e2
      rw [List.getElem?_set_self (by simpa using k2)] at ho
      cases ho; exact .inl ⟨rfl, rfl⟩
    · rw [List.getElem?_set_ne e2] at ho
      by_cases e1 : r1 = r
      · subst e1
        rw [List.getElem?_set_self k1] at ho
        cases ho; exact .inr (.inl ⟨rfl, rfl⟩)
      · rw [List.getElem?_set_ne e1] at ho
        exact .inr (.inr ⟨fun e => e1 e.symm, fun e => e2 e.symm, ho⟩)
  refine h.refor (by simp) (fun r o ho => ?_) (fun r S l ho => ?_) (fun r r' S S'' l l'' b ho ho' hb hb' => ?_)
  · rcases get r o ho with ⟨rfl, rfl⟩ | ⟨rfl, rfl⟩ | ⟨_, _, h3⟩
    · exact .inr (.inl ⟨rfl, _, _, h2⟩)
    · exact .inr (.inr ⟨_, _, rfl⟩)
    · exact .inl h3
  · rcases get r _ ho with ⟨_, h3⟩ | ⟨rfl, h3⟩ | ⟨_, _, h3⟩
    · cases h3
    · cases h3
      refine ⟨hf, fun b hb => ?_, .inr ⟨_, _, h1⟩⟩
      rcases hs b hb with hb | hb
      · exact h.t.sub _ _ _ b h1 hb
      · exact h.t.sub _ _ _ b h2 hb
    · refine ⟨?_, fun b hb => h.t.sub _ _ _ b h3 hb, .inr ⟨_, _, h3⟩⟩
      have hlt : r < ρ.l.length := by rw [h.len]; exact (List.getElem?_eq_some_iff.1 h3).1
      exact (h.ent r _ _ h3 (List.getElem?_eq_getElem hlt)).2
  · have no : ∀ {q : Nat} {S : Nat → Prop} {l : List (Value × AV)}, q ≠ r1 → q ≠ r2 → L[q]? = some (.forest S l) → S b → S' b → False := fun {q S l} n1 n2 hq hb hb' => by
      rcases hs b hb' with h3 | h3
      · exact n1 (h.t.dis _ _ _ _ _ _ b hq h1 hb h3)
      · exact n2 (h.t.dis _ _ _ _ _ _ b hq h2 hb h3)
    rcases get r _ ho with ⟨_, h3⟩ | ⟨e1, h3⟩ | ⟨n1, n2, h3⟩
    · cases h3
    · cases h3
      rcases get r' _ ho' with ⟨_, h4⟩ | ⟨e2, h4⟩ | ⟨m1, m2, h4⟩
      · cases h4
      · rw [e1, e2]
      · exact (no m1 m2 h4 hb' hb).elim
    · rcases get r' _ ho' with ⟨_, h4⟩ | ⟨e2, h4⟩ | ⟨m1, m2, h4⟩
      · cases h4
      · cases h4; exact (no n1 n2 h3 hb hb').elim
      · exact h.t.dis _ _ _ _ _ _ b h3 h4 hb hb'

/-- A part told anew, within its own blocks, beside one that is new. -/
theorem HR.split {w : World} {ρ : Env} {L : List OB} (h : HR w ρ L) {r : Nat} {S S1 S2 : Nat → Prop} {l l1 l2 : List (Value × AV)} (h1 : L[r]? = some (.forest S l)) (s1 : ∀ b, S1 b → S b) (s2 : ∀ b, S2 b → S b) (hd : ∀ b, S1 b → S2 b → False)
    (f1 : Forest w S1 l1) (f2 : Forest w S2 l2) : HR w (ρ.push none) (L.set r (.forest S1 l1) ++ [.forest S2 l2]) := by
  have k1 := (List.getElem?_eq_some_iff.1 h1).1
  have hp : HR w (ρ.push none) (L ++ [.dead]) := by
    have hr : Rel ρ ⟨[], L⟩ { tmps := #[], defers := [] } w := ⟨rfl, rfl, fun i v x h => by simp at h, h⟩
    exact (hr.push Fr.refl none (fun b base hh => by cases hh) .dead rfl).hr
  have get : ∀ (q : Nat) o, (L.set r (.forest S1 l1) ++ [.forest S2 l2])[q]? = some o → (q = L.length ∧ o = .forest S2 l2) ∨ (q = r ∧ o = .forest S1 l1) ∨ (q ≠ r ∧ q < L.length ∧ L[q]? = some o) := fun q o ho => by
    by_cases hq : q < L.length
    · rw [List.getElem?_append_left (by simpa using hq)] at ho
      by_cases e : r = q
      · subst e
        rw [List.getElem?_set_self k1] at ho
        cases ho; exact .inr (.inl ⟨rfl, rfl⟩)
      · rw [List.getElem?_set_ne e] at ho
        exact .inr (.inr ⟨fun e' => e e'.symm, hq, ho⟩)
    · rw [List.getElem?_append_right (by simpa using Nat.le_of_not_lt hq)] at ho
      simp only [List.length_set] at ho
      cases hk : q - L.length with
      | zero => rw [hk] at ho; simp at ho; exact .inl ⟨by omega, ho.symm⟩
      | succ k => rw [hk] at ho; simp at ho
  have old : ∀ {q : Nat} {o : OB}, L[q]? = some o → (L ++ [OB.dead])[q]? = some o := fun {q o} ho => by
    rw [List.getElem?_append_left (List.getElem?_eq_some_iff.1 ho).1]; exact ho
  refine hp.refor (by simp) (fun q o ho => ?_) (fun q S' l' ho => ?_) (fun q q' S' S'' l' l'' b ho ho' hb hb' => ?_)
  · rcases get q o ho with ⟨rfl, rfl⟩ | ⟨rfl, rfl⟩ | ⟨_, _, h3⟩
    · exact .inr (.inr ⟨_, _, rfl⟩)
    · exact .inr (.inr ⟨_, _, rfl⟩)
    · exact .inl (old h3)
  · rcases get q _ ho with ⟨rfl, h3⟩ | ⟨rfl, h3⟩ | ⟨_, _, h3⟩
    · cases h3
      exact ⟨f2, fun b hb => h.t.sub _ _ _ b h1 (s2 b hb), .inl (by simp)⟩
    · cases h3
      exact ⟨f1, fun b hb => h.t.sub _ _ _ b h1 (s1 b hb), .inr ⟨_, _, old h1⟩⟩
    · refine ⟨?_, fun b hb => h.t.sub _ _ _ b h3 hb, .inr ⟨_, _, old h3⟩⟩
      have hlt : q < ρ.l.length := by rw [h.len]; exact (List.getElem?_eq_some_iff.1 h3).1
      exact (h.ent q _ _ h3 (List.getElem?_eq_getElem hlt)).2
  · have no : ∀ {q : Nat} {S' : Nat → Prop} {l : List (Value × AV)}, q ≠ r → L[q]? = some (.forest S' l) → S' b → S b → False := fun {q S' l} n1 hq hb hb' => n1 (h.t.dis _ _ _ _ _ _ b hq h1 hb hb')
    rcases get q _ ho with ⟨e1, h3⟩ | ⟨e1, h3⟩ | ⟨n1, m1, h3⟩ <;> rcases get q' _ ho' with ⟨e2, h4⟩ | ⟨e2, h4⟩ | ⟨n2, m2, h4⟩
    · omega
    · cases h3; cases h4; exact (hd b hb' hb).elim
    · cases h3; exact (no n2 h4 hb' (s2 b hb)).elim
    · cases h3; cases h4; exact (hd b hb hb').elim
    · omega
    · cases h3; exact (no n2 h4 hb' (s1 b hb)).elim
    · cases h4; exact (no n1 h3 hb (s2 b hb')).elim
    · cases h4; exact (no n1 h3 hb (s1 b hb')).elim
    · exact h.t.dis _ _ _ _ _ _ b h3 h4 hb hb'

def AV.exact : AV → Bool
  | .val _ => true
  | _ => false
theorem AV.exact_iff {x : AV} (h : x.exact = true) : ∃ u, x = .val u := by cases x <;> simp [AV.exact] at h; exact ⟨_, rfl⟩
def exactR (rows : List (List AV)) : Bool := rows.all fun e => e.all AV.exact
theorem exactR_get {rows : List (List AV)} (h : exactR rows = true) {i j : Nat} {e : List AV} {x : AV} (he : rows[i]? = some e) (hx : e[j]? = some x) : ∃ u, x = .val u :=
  AV.exact_iff (List.all_eq_true.1 (List.all_eq_true.1 h e (List.mem_of_getElem? he)) x (List.mem_of_getElem? hx))

/-- The blocks that lie at a name. -/
def Env.blk (ρ : Env) (r b : Nat) : Prop := ∃ base, ρ.l[r]? = some (some (b, base))

/-- An own row of exact values becomes a value with memory of its own. -/
theorem Rel.close {fx : List Nat} {ρ : Env} {s : AS} {a : Act} {w : World} (h : Rel ρ s a w) {r k : Nat} {rows : List (List AV)} (hL : s.L[r]? = some (.vec k rows)) (hall : exactR rows = true) (hfx : r ∉ fx) {v : Value} (hv : VR w ρ v (.os r k 0 rows.length)) :
    ∃ S ρ', Rel ρ' { s.kill r with L := (s.kill r).L.set r (.forest S [(v, .sl rows)]) } a w ∧ St fx ρ w ρ' w ∧ ρ'.l = ρ.l.set r none := by
  have hrl : r < s.L.length := (List.getElem?_eq_some_iff.1 hL).1
  have hrρ : r < ρ.l.length := by rw [h.hr.len]; exact hrl
  let ρ' : Env := { l := ρ.l.set r none, X := ρ.X, T := fun b => ρ.T b ∨ ρ.blk r b }
  have hget : ∀ {q b base : Nat}, ρ'.l[q]? = some (some (b, base)) → q ≠ r ∧ ρ.l[q]? = some (some (b, base)) := fun {q b base} hq => by
    simp only [ρ'] at hq
    by_cases e : r = q
    · subst e
      rw [List.getElem?_set_self hrρ] at hq; cases hq
    · rw [List.getElem?_set_ne e] at hq
      exact ⟨Ne.symm e, hq⟩
  have hown : ∀ b, own ρ' b → own ρ b := fun b hb => by
    rcases hb with ⟨q, base, hq⟩ | hb | ⟨base, hb⟩
    · exact .l (hget hq).2
    · exact .inr hb
    · exact .l hb
  have hno : ∀ b, no ρ' b → no ρ b := fun b hb => hb.elim (fun hb => .inl (hown b hb)) .inr
  have hkeep : ∀ (q : Nat) l, (q != r) = true → ρ.l[q]? = some l → ρ'.l[q]? = some l := fun q l hq hl => by
    simp only [ρ']
    rw [List.getElem?_set_ne (fun e => by subst e; simp at hq)]; exact hl
  have keep : ∀ v x, VR w ρ v x → VR w ρ' v (x.filt fun r' => r' != r) := fun v x hv => hv.mono .refl (fun b _ => hno b) _ hkeep
  have keepP : ∀ v x, PR w (no ρ) v x → PR w (no ρ') v x := fun v x hv => hv.mono (fun _ _ _ => rfl) (Nat.le_refl _) (fun b _ => hno b)
  have hT : TR w (ρ.blk r) v (.sl rows) := by
    generalize hn : rows.length = n at hv
    have nil : ∀ a c, n = 0 → TR w (ρ.blk r) (.slice a 0 c) (.sl rows) := fun a c h0 => by
      subst h0
      rw [List.length_eq_zero_iff.1 hn]
      exact .nil _ _ _
    cases hv with
    | pr hp => cases hp
    | osnil => exact nil _ _ rfl
    | osz => exact nil _ _ rfl
    | os r k off n c b base cs e fz hr hc hb hsz =>
      by_cases h0 : n = 0
      · subst h0; exact nil _ _ rfl
      · obtain ⟨hk, hl, hd | ⟨b', base', c', ty, g1, g2, g3, g4⟩⟩ := h.hr.ent r _ _ hL hr
        · cases hd.1
        · cases g1
          rw [hb] at g2; cases g2
          simp only [Nat.zero_mul, Nat.add_zero, Nat.zero_add] at *
          refine .sl _ b base k n c rows (fun i j => (cs[base + i * k + j]?).getD undef) cs e (fun _ _ _ => False) hn (by omega) hc hk ⟨base, hr⟩ hl hb hsz (fun i j e' x he hx => ?_) (fun _ _ _ h => h.elim) (fun _ _ _ _ _ h => h.elim) (fun i j e' x he hx => ?_)
          · obtain ⟨u, h1, _⟩ := g4 i j e' x he hx
            rw [h1]; rfl
          · obtain ⟨u, h1, h2⟩ := g4 i j e' x he hx
            obtain ⟨u', rfl⟩ := exactR_get hall he hx
            rw [h1]
            cases h2
            exact .val _ _
  have hfo : ∀ {q : Nat} {S : Nat → Prop} {l : List (Value × AV)}, q ≠ r → ((s.kill r).L.set r (.forest (ρ.blk r) [(v, .sl rows)]))[q]? = some (.forest S l) → s.L[q]? = some (.forest S l) := fun {q S l} e hh => by
    rw [List.getElem?_set_ne (fun e' => e e'.symm)] at hh
    simp only [AS.kill, List.getElem?_map] at hh
    cases hq : s.L[q]? with
    | none => simp [hq] at hh
    | some o0 =>
      cases o0 <;> simp [hq, OB.kill] at hh
      rw [hh.1, hh.2]
  have hself : ∀ {S : Nat → Prop} {l : List (Value × AV)}, ((s.kill r).L.set r (.forest (ρ.blk r) [(v, .sl rows)]))[r]? = some (.forest S l) → S = ρ.blk r := fun {S l} hh => by
    rw [List.getElem?_set_self (by simpa [AS.kill] using hrl)] at hh
    cases hh; rfl
  refine ⟨ρ.blk r, ρ', ⟨h.dfr, by simp [AS.kill, h.size], fun i u x h1 h2 => ?_, ⟨by simp [ρ', AS.kill, h.hr.len], h.hr.xlt, fun b hb => h.hr.disj b (hown b hb), fun q q' b base base' h1 h2 => h.hr.inj _ _ _ _ _ (hget h1).2 (hget h2).2, fun q o l h1 h2 => ?_,
    ⟨fun b hb => own_lt h.hr (hb.elim .inr fun ⟨base, hb⟩ => .l hb), fun b q base hb h1 => ?_, fun q S l b h1 hb => ?_, fun q q' S S' l l' b h1 h2 hb hb' => ?_⟩⟩⟩, ⟨.refl, fun b _ hb => hown b hb, fun q hq x hx => ?_, rfl⟩, rfl⟩
  · simp only [AS.kill, List.getElem?_map] at h2
    cases hq : s.tm[i]? with
    | none => simp [hq] at h2
    | some y => simp [hq] at h2; subst h2; exact keep _ _ (h.tm i u y h1 hq)
  · by_cases e : r = q
    · subst e
      rw [List.getElem?_set_self (by simpa [AS.kill] using hrl)] at h1
      cases h1
      simp only [ρ'] at h2
      rw [List.getElem?_set_self hrρ] at h2
      cases h2
      exact ⟨rfl, Forest.one.2 hT⟩
    · rw [List.getElem?_set_ne e] at h1
      simp only [AS.kill, List.getElem?_map] at h1
      simp only [ρ'] at h2
      rw [List.getElem?_set_ne e] at h2
      cases hq : s.L[q]? with
      | none => simp [hq] at h1
      | some o0 =>
        simp [hq] at h1
        have hent := h.hr.ent q o0 l hq h2
        cases o0 with
        | dead => simp [OB.kill] at h1; subst h1; exact hent
        | cells cs =>
          simp [OB.kill] at h1; subst h1
          obtain ⟨b, c, ty, g1, g2, g3, g4⟩ := hent
          refine ⟨b, c, ty, g1, g2, by simpa using g3, fun i v x h5 h6 => ?_⟩
          rw [List.getElem?_map] at h6
          cases hx : cs[i]? with
          | none => simp [hx] at h6
          | some y => simp [hx] at h6; subst h6; exact keep _ _ (g4 i v y h5 hx)
        | slab cs =>
          simp [OB.kill] at h1; subst h1
          rcases hent with ⟨hz1, hz2⟩ | ⟨b, base0, c, ty, g1, g2, g3, g4⟩
          · exact .inl ⟨hz1, by simpa using hz2⟩
          refine .inr ⟨b, base0, c, ty, g1, g2, by simpa using g3, fun i v x h5 h6 => ?_⟩
          rw [List.getElem?_map] at h6
          cases hx : cs[i]? with
          | none => simp [hx] at h6
          | some y => simp [hx] at h6; subst h6; exact keep _ _ (g4 i v y h5 hx)
        | vec k es =>
          simp [OB.kill] at h1; subst h1
          obtain ⟨h0, hl, hd⟩ := hent
          refine ⟨h0, hl, ?_⟩
          rcases hd with hd | ⟨b, base', c, ty, g1, g2, g3, g4⟩
          · exact .inl hd
          · exact .inr ⟨b, base', c, ty, g1, g2, g3, fun i j ei x h5 h6 => let ⟨v, h7, h8⟩ := g4 i j ei x h5 h6; ⟨v, h7, keepP _ _ h8⟩⟩
        | forest S l => simp [OB.kill] at h1; subst h1; exact hent
  · obtain ⟨n, h1⟩ := hget h1
    rcases hb with hb | ⟨base', hb⟩
    · exact h.hr.t.dl b q base hb h1
    · exact n (h.hr.inj _ _ _ _ _ h1 hb)
  · by_cases e : q = r
    · subst e
      exact .inr (hself h1 ▸ hb)
    · exact .inl (h.hr.t.sub _ _ _ b (hfo e h1) hb)
  · have no2 : ∀ {q : Nat} {S : Nat → Prop} {l : List (Value × AV)}, q ≠ r → ((s.kill r).L.set r (.forest (ρ.blk r) [(v, .sl rows)]))[q]? = some (.forest S l) → S b → ρ.blk r b → False := fun {q S l} e hq hb ⟨base, hb'⟩ =>
      h.hr.t.dl b r base (h.hr.t.sub _ _ _ b (hfo e hq) hb) hb'
    by_cases e : q = r <;> by_cases e' : q' = r
    · rw [e, e']
    · subst e; exact (no2 e' h2 hb' (hself h1 ▸ hb)).elim
    · subst e'; exact (no2 e h1 hb (hself h2 ▸ hb')).elim
    · exact h.hr.t.dis _ _ _ _ _ _ b (hfo e h1) (hfo e' h2) hb hb'
  · simp only [ρ']
    rw [List.getElem?_set_ne (show r ≠ q from fun e => hfx (by rw [e]; exact hq))]
    exact hx

/-- An own row that is handed back, as a value with memory of its own. -/
theorem fin_close {nb : Nat} {R : AV → List OB → Prop} {s : AS} {r k n : Nat} {rows : List (List AV)} (hL : s.L[r]? = some (.vec k rows)) (hall : exactR rows = true) (hfx : r ∉ fx) (hn : n = rows.length)
    (h : ∀ S v, v.oneCell' = true → Fin fx nb R { s.kill r with L := (s.kill r).L.set r (.forest S [(v, .sl rows)]) } (.val v)) : Fin fx nb R s (.os r k 0 n) := by
  subst hn
  refine fun ρ a w v hr hv => ?_
  obtain ⟨S, ρ1, h1, g1, _⟩ := hr.close hL hall hfx hv
  obtain ⟨x', L', hR, ρ2, h2, h3, g2⟩ := h S v (one_sound hv rfl) ρ1 a w v h1 (.pr (.val _))
  exact ⟨x', L', hR, ρ2, h2, h3, g1.trans g2⟩

/-- Parts are hung into what is handed back. -/
theorem fin_graft {nb : Nat} {R : AV → List OB → Prop} {s : AS} {x : AV} {r r2 j0 : Nat} {S1 S2 : Nat → Prop} {v : Value} {es : List (List AV)} {kv : List Value} (hne : r ≠ r2) (h1 : s.L[r]? = some (.forest S1 [(v, .sl (rowsK j0 es kv))])) (h2 : s.L[r2]? = some (.forest S2 (itemsK j0 es kv))) (hl : kv.length = es.length)
    (h : ∀ S, Fin fx nb R { s with L := (s.L.set r (.forest S [(v, .sl es)])).set r2 .dead } x) : Fin fx nb R s x := fun ρ a w u hr hu => by
  have hlt : ∀ {q : Nat} {o : OB}, s.L[q]? = some o → q < ρ.l.length := fun {q o} ho => by rw [hr.hr.len]; exact (List.getElem?_eq_some_iff.1 ho).1
  have f1 := (hr.hr.ent r _ _ h1 (List.getElem?_eq_getElem (hlt h1))).2
  have f2 := (hr.hr.ent r2 _ _ h2 (List.getElem?_eq_getElem (hlt h2))).2
  have hd : ∀ b, S1 b → S2 b → False := fun b hb hb' => hne (hr.hr.t.dis _ _ _ _ _ _ b h1 h2 hb hb')
  exact h (fun b => S1 b ∨ S2 b) ρ a w u (hr.refor (hr.hr.join hne h1 h2 (fun _ h => h) (Forest.one.2 (TR.graft hl (Forest.one.1 f1) f2 hd)))) hu

end

end Go.Pc

/- The abstract logic: calls that read, write or make values with memory of their own. -/
namespace Go.Pc
open Go

section
variable {P : Program} {T : TypeId → Ty} {fx bl : List Nat}

theorem awp_ungraft {c : Code} {Q : Exit → AS → Prop} {s : AS} {r : Nat} (j0 : Nat) {S : Nat → Prop} {v : Value} {es : List (List AV)} (hL : s.L[r]? = some (.forest S [(v, .sl es)])) (hj : ∀ (i j : Nat) e x, es[i]? = some e → e[j]? = some x → j ≠ j0 → ∃ u, x = .val u) (hj0 : ∀ (i : Nat) e, es[i]? = some e → j0 < e.length)
    (h : ∀ kv S1 S2, kv.length = es.length → awp P fx c Q { s with L := s.L.set r (.forest S1 [(v, .sl (rowsK j0 es kv))]) ++ [.forest S2 (itemsK j0 es kv)] }) : awp P fx c Q s := fun ρ a w hr => by
  have hlt : r < ρ.l.length := by rw [hr.hr.len]; exact (List.getElem?_eq_some_iff.1 hL).1
  have f := Forest.one.1 (hr.hr.ent r _ _ hL (List.getElem?_eq_getElem hlt)).2
  obtain ⟨kv, S1, S2, h1, h2, h3, h4, h5, h6⟩ := f.ungraft hj hj0
  have hh := hr.hr.split hL h5 h6 h4 (Forest.one.2 h2) h3
  have hp := hr.push Fr.refl none (fun b base hh => by cases hh) .dead rfl
  have hst : St fx ρ w (ρ.push none) w := .push Fr.refl (fun b base hh => by cases hh)
  exact wp_mono (h kv S1 S2 h1 _ a w ⟨hp.dfr, hp.size, hp.tm, hh⟩) fun e a' w' ⟨s', ρ', q1, q2, q3⟩ => ⟨s', ρ', q1, q2, hst.trans q3⟩

/-- What is asked where a row that was opened is closed. -/
def OpQ (Q : Exit → AS → Prop) (r k n : Nat) (v : Value) (e : Exit) (s : AS) : Prop :=
  ∃ rows, s.L[r]? = some (.vec k rows) ∧ rows.length = n ∧ exactR rows = true ∧ ∀ S, Q e { s.kill r with L := (s.kill r).L.set r (.forest S [(v, .sl rows)]) }

theorem AS.set_get {s : AS} {r q : Nat} {o o' : OB} (h : (s.L.set r o)[q]? = some o') : (q = r ∧ o' = o) ∨ (q ≠ r ∧ s.L[q]? = some o') := by
  by_cases e : r = q
  · subst e
    simp only [List.getElem?_set] at h
    simp at h
    exact .inl ⟨rfl, h.2.symm⟩
  · rw [List.getElem?_set_ne e] at h
    exact .inr ⟨fun e' => e e'.symm, h⟩

/-- A value with memory of its own is opened: its elements are an own row. -/
theorem awp_open {c : Code} {Q : Exit → AS → Prop} {s : AS} (r t k : Nat) {S : Nat → Prop} {v : Value} {rows : List (List AV)} (hL : s.L[r]? = some (.forest S [(v, .sl rows)])) (hall : exactR rows = true) (hk : ∀ (i : Nat) e, rows[i]? = some e → e.length = k) (h0 : 0 < rows.length) (ht : s.tm[t]? = some (.val v))
    (h : awp P (r :: fx) c (OpQ Q r k rows.length v) { tm := (s.kill r).tm.set t (.os r k 0 rows.length), L := (s.kill r).L.set r (.vec k rows) }) : awp P fx c Q s := fun ρ a w hr => by
  have hrl : r < s.L.length := (List.getElem?_eq_some_iff.1 hL).1
  have hlt : r < ρ.l.length := by rw [hr.hr.len]; exact hrl
  have hloc := hr.hr.ent r _ _ hL (List.getElem?_eq_getElem hlt)
  have hρr : ρ.l[r]? = some none := by rw [List.getElem?_eq_getElem hlt, hloc.1]
  have f := Forest.one.1 hloc.2
  generalize hrows : rows = rows' at f
  cases f with
  | nil => subst hrows; simp at h0
  | sl _ b o k' n c' _ cv cs e F hn h0' hc hk' hb hl hh hsz hcell hF hdis hread =>
  subst hrows
  have hkk : k' = k := by
    have h1 := List.getElem?_eq_getElem h0
    rw [← hl 0 _ h1, hk 0 _ h1]
  subst hkk
  let ρ1 : Env := { l := ρ.l.set r (some (b, o)), X := ρ.X, T := fun y => ρ.T y ∧ y ≠ b }
  have hTb : ρ.T b := hr.hr.t.sub _ _ _ b hL hb
  have inv : ∀ {q y base : Nat}, ρ1.l[q]? = some (some (y, base)) → (q = r ∧ y = b ∧ base = o) ∨ (q ≠ r ∧ ρ.l[q]? = some (some (y, base))) := fun {q y base} hq => by
    simp only [ρ1] at hq
    by_cases e : r = q
    · subst e
      rw [List.getElem?_set_self hlt] at hq
      cases hq; exact .inl ⟨rfl, rfl, rfl⟩
    · rw [List.getElem?_set_ne e] at hq
      exact .inr ⟨Ne.symm e, hq⟩
  have hself : ρ1.l[r]? = some (some (b, o)) := by simp only [ρ1]; rw [List.getElem?_set_self hlt]
  have hown : ∀ y, own ρ1 y → own ρ y := fun y hy => by
    rcases hy with ⟨q, base, hq⟩ | hy
    · rcases inv hq with ⟨_, rfl, _⟩ | ⟨_, hq⟩
      · exact .inr hTb
      · exact .l hq
    · exact .inr hy.1
  have hno : ∀ y, no ρ1 y → no ρ y := fun y hy => hy.elim (fun h => .inl (hown y h)) .inr
  have old : ∀ (q : Nat) l, (q != r) = true → ρ.l[q]? = some l → ρ1.l[q]? = some l := fun q l hne hq => by
    simp only [ρ1]
    rw [List.getElem?_set_ne (fun e => by subst e; simp at hne)]; exact hq
  have keep : ∀ v x, VR w ρ v x → VR w ρ1 v (x.filt fun r' => r' != r) := fun v x hv => hv.mono .refl (fun y _ => hno y) _ old
  have keepP : ∀ v x, PR w (no ρ) v x → PR w (no ρ1) v x := fun v x hv => hv.mono (fun _ _ _ => rfl) (Nat.le_refl _) (fun y _ => hno y)
  have hfo : ∀ {q : Nat} {S' : Nat → Prop} {l : List (Value × AV)}, ((s.kill r).L.set r (.vec k' rows))[q]? = some (.forest S' l) → q ≠ r ∧ s.L[q]? = some (.forest S' l) := fun {q S' l} hh => by
    by_cases e : r = q
    · subst e
      rw [List.getElem?_set_self (by simpa [AS.kill] using hrl)] at hh; cases hh
    · rw [List.getElem?_set_ne e] at hh
      simp only [AS.kill, List.getElem?_map] at hh
      cases hq : s.L[q]? with
      | none => simp [hq] at hh
      | some o0 =>
        cases o0 <;> simp [hq, OB.kill] at hh
        exact ⟨Ne.symm e, by rw [hh.1, hh.2]⟩
  have hrel : Rel ρ1 { tm := (s.kill r).tm.set t (.os r k' 0 rows.length), L := (s.kill r).L.set r (.vec k' rows) } a w := by
    refine ⟨hr.dfr, by simp [AS.kill, hr.size], fun i u x h1 h2 => ?_, ⟨by simp [ρ1, AS.kill, hr.hr.len], hr.hr.xlt, fun y hy => hr.hr.disj y (hown y hy), fun q q' y base base' h1 h2 => ?_, fun q o' l h1 h2 => ?_,
      ⟨fun y hy => hr.hr.t.lt y hy.1, fun y q base hy h1 => ?_, fun q S' l y h1 hy => ?_, fun q q' S' S'' l l' y h1 h2 => hr.hr.t.dis _ _ _ _ _ _ y (hfo h1).2 (hfo h2).2⟩⟩⟩
    · by_cases hi : t = i
      · subst hi
        have htl : t < s.tm.length := (List.getElem?_eq_some_iff.1 ht).1
        simp only [] at h2
        rw [List.getElem?_set_self (by simpa [AS.kill] using htl)] at h2
        cases h2
        have := val_inv (hr.tm t u _ h1 ht)
        subst this
        have h3 := VR.os (w := w) (ρ := ρ1) r k' 0 n c' b o cs e (0, 0) hself hc hh (by simpa using hsz)
        simpa [hn] using h3
      · simp only [] at h2
        rw [List.getElem?_set_ne hi] at h2
        simp only [AS.kill, List.getElem?_map] at h2
        cases hq : s.tm[i]? with
        | none => simp [hq] at h2
        | some y => simp [hq] at h2; subst h2; exact keep _ _ (hr.tm i u y h1 hq)
    · have nb : ∀ {q base : Nat}, ρ.l[q]? = some (some (b, base)) → False := fun {q base} hq => hr.hr.t.dl b q base hTb hq
      rcases inv h1 with ⟨e1, y1, _⟩ | ⟨e1, g1⟩ <;> rcases inv h2 with ⟨e2, y2, _⟩ | ⟨e2, g2⟩
      · rw [e1, e2]
      · exact (nb (y1 ▸ g2)).elim
      · exact (nb (y2 ▸ g1)).elim
      · exact hr.hr.inj _ _ _ _ _ g1 g2
    · by_cases e0 : r = q
      · subst e0
        rw [List.getElem?_set_self (by simpa [AS.kill] using hrl)] at h1
        cases h1
        rw [hself] at h2
        cases h2
        refine ⟨hk', hl, .inr ⟨b, o, cs, e, rfl, hh, ?_, fun i j ei x h3 h4 => ⟨cv i j, hcell i j ei x h3 h4, ?_⟩⟩⟩
        · have : rows.length * k' ≤ c' * k' := Nat.mul_le_mul_right k' (by omega)
          omega
        · obtain ⟨u, rfl⟩ := exactR_get hall h3 h4
          rw [(hread i j ei _ h3 h4).val_inv]
          exact .val _
      · rw [List.getElem?_set_ne e0] at h1
        simp only [AS.kill, List.getElem?_map] at h1
        simp only [ρ1] at h2
        rw [List.getElem?_set_ne e0] at h2
        cases hq : s.L[q]? with
        | none => simp [hq] at h1
        | some o0 =>
          simp [hq] at h1
          have hent := hr.hr.ent q o0 l hq h2
          cases o0 with
          | dead => simp [OB.kill] at h1; subst h1; exact hent
          | cells cs =>
            simp [OB.kill] at h1; subst h1
            obtain ⟨b, c, ty, g1, g2, g3, g4⟩ := hent
            refine ⟨b, c, ty, g1, g2, by simpa using g3, fun i v x h5 h6 => ?_⟩
            rw [List.getElem?_map] at h6
            cases hx : cs[i]? with
            | none => simp [hx] at h6
            | some y => simp [hx] at h6; subst h6; exact keep _ _ (g4 i v y h5 hx)
          | slab cs =>
            simp [OB.kill] at h1; subst h1
            rcases hent with ⟨hz1, hz2⟩ | ⟨b, base0, c, ty, g1, g2, g3, g4⟩
            · exact .inl ⟨hz1, by simpa using hz2⟩
            refine .inr ⟨b, base0, c, ty, g1, g2, by simpa using g3, fun i v x h5 h6 => ?_⟩
            rw [List.getElem?_map] at h6
            cases hx : cs[i]? with
            | none => simp [hx] at h6
            | some y => simp [hx] at h6; subst h6; exact keep _ _ (g4 i v y h5 hx)
          | vec k es =>
            simp [OB.kill] at h1; subst h1
            obtain ⟨h0, hl, hd⟩ := hent
            refine ⟨h0, hl, ?_⟩
            rcases hd with hd | ⟨b, base', c, ty, g1, g2, g3, g4⟩
            · exact .inl hd
            · exact .inr ⟨b, base', c, ty, g1, g2, g3, fun i j ei x h5 h6 => let ⟨v, h7, h8⟩ := g4 i j ei x h5 h6; ⟨v, h7, keepP _ _ h8⟩⟩
          | forest S l => simp [OB.kill] at h1; subst h1; exact hent
    · rcases inv h1 with ⟨_, e1, _⟩ | ⟨_, g1⟩
      · exact hy.2 e1
      · exact hr.hr.t.dl y q base hy.1 g1
    · obtain ⟨hq, h3⟩ := hfo h1
      exact ⟨hr.hr.t.sub _ _ _ y h3 hy, fun e1 => hq (hr.hr.t.dis _ _ _ _ _ _ b h3 hL (e1 ▸ hy) hb)⟩
  refine wp_mono (h ρ1 a w hrel) fun e' a' w' ⟨s', ρ', ⟨rows', g1, g2, g3, g4⟩, hrel', hst⟩ => ?_
  have hfix := hst.fix r (by simp) _ hself
  obtain ⟨c2, p1, p2⟩ := hst.fr.size b cs e (0, 0) hh
  have hv : VR w' ρ' (.slice (some ⟨b, o, none⟩) n c') (.os r k' 0 rows'.length) := by
    have h3 := VR.os (w := w') (ρ := ρ') r k' 0 n c' b o c2 e (0, 0) hfix hc p1 (by rw [p2]; simpa using hsz)
    rw [g2, hn]
    simpa using h3
  obtain ⟨S', ρ2, k1, k2, k3⟩ := hrel'.close (fx := []) g1 g3 (by simp) hv
  have st0 : St [] ρ w ρ' w' := ⟨⟨hst.fr.le, fun y hy hno => hst.fr.same y hy fun h => hno (hown y h), hst.fr.size, hst.fr.os, hst.fr.out, hst.fr.tape⟩, fun y hy ho => hown y (hst.sub y hy ho), fun q hq => by simp at hq, hst.x⟩
  have st1 := st0.trans k2
  refine ⟨_, ρ2, g4 S', k1, ⟨st1.fr, st1.sub, fun q hq x hx => ?_, st1.x⟩⟩
  rw [k3]
  by_cases e0 : r = q
  · subst e0
    rw [hρr] at hx; cases hx
    rw [List.getElem?_set_self (List.getElem?_eq_some_iff.1 hfix).1]
  · rw [List.getElem?_set_ne e0]
    exact hst.fix q (by simp [hq]) x (old q x (by simpa using Ne.symm e0) hx)

/-- A value without elements reads as an empty slice. -/
theorem wk_empty {s : AS} (r t : Nat) {S : Nat → Prop} {v : Value} (hL : s.L[r]? = some (.forest S [(v, .sl [])])) (ht : s.tm[t]? = some (.val v)) : Wk fx s { s with tm := s.tm.set t (.sl []) } := fun ρ a w hr => by
  have hlt : r < ρ.l.length := by rw [hr.hr.len]; exact (List.getElem?_eq_some_iff.1 hL).1
  have f := Forest.one.1 (hr.hr.ent r _ _ hL (List.getElem?_eq_getElem hlt)).2
  refine ⟨ρ, ⟨hr.dfr, by simp [hr.size], fun i u x h1 h2 => ?_, hr.hr⟩, .refl⟩
  by_cases hi : t = i
  · subst hi
    simp only [] at h2
    rw [List.getElem?_set_self (List.getElem?_eq_some_iff.1 ht).1] at h2
    cases h2
    have := val_inv (hr.tm t u _ h1 ht)
    subst this
    cases f with
    | nil => exact .pr (.slnil _ _)
    | sl _ _ _ _ _ _ _ _ _ _ _ hn h0 => simp at hn; omega
  · simp only [] at h2
    rw [List.getElem?_set_ne hi] at h2
    exact hr.tm i u x h1 h2

/-- Something with no parts yet. -/
theorem wk_noforest {s : AS} : Wk fx s (s.push (.forest (fun _ => False) [])) := fun ρ a w hr => by
  have hp := hr.push Fr.refl none (fun b base hh => by cases hh) .dead rfl
  refine ⟨ρ.push none, ⟨hp.dfr, hp.size, hp.tm, hp.hr.refor (by simp [AS.push]) (fun r o ho => ?_) (fun r S l ho => ?_) (fun r r' S S' l l' b ho ho' hb hb' => ?_)⟩, .push Fr.refl (fun b base hh => by cases hh)⟩
  all_goals simp only [AS.push] at *
  · by_cases h : r < s.L.length
    · rw [List.getElem?_append_left h] at ho ⊢; exact .inl ho
    · rw [List.getElem?_append_right (by omega)] at ho
      cases hk : r - s.L.length with
      | zero => rw [hk] at ho; simp at ho; exact .inr (.inr ⟨_, _, ho.symm⟩)
      | succ k => rw [hk] at ho; simp at ho
  · by_cases h : r < s.L.length
    · rw [List.getElem?_append_left h] at ho ⊢
      have hlt : r < ρ.l.length := by rw [hr.hr.len]; exact h
      exact ⟨(hr.hr.ent r _ _ ho (List.getElem?_eq_getElem hlt)).2, fun b hb => hr.hr.t.sub _ _ _ b ho hb, .inr ⟨_, _, ho⟩⟩
    · rw [List.getElem?_append_right (by omega)] at ho ⊢
      cases hk : r - s.L.length with
      | zero => rw [hk] at ho; simp at ho; obtain ⟨rfl, rfl⟩ := ho; exact ⟨Forest.nil, fun _ h => h.elim, .inl (by simp)⟩
      | succ k => rw [hk] at ho; simp at ho
  · have get : ∀ {q : Nat} {S : Nat → Prop} {l : List (Value × AV)}, (s.L ++ [OB.forest (fun _ => False) []])[q]? = some (.forest S l) → S b → s.L[q]? = some (.forest S l) := fun {q S l} ho hb => by
      by_cases h : q < s.L.length
      · rwa [List.getElem?_append_left h] at ho
      · rw [List.getElem?_append_right (by omega)] at ho
        cases hk : q - s.L.length with
        | zero => rw [hk] at ho; simp at ho; obtain ⟨rfl, _⟩ := ho; exact hb.elim
        | succ k => rw [hk] at ho; simp at ho
    exact hr.hr.t.dis _ _ _ _ _ _ b (get ho hb) (get ho' hb') hb hb'

/-! ### Calls -/

/-- Behind a call: another state, which may hang on what is there. -/
theorem acall_post {f : AV} {args : List AV} {s : AS} {K K' : AV → AS → Prop} (h : ACall P fx f args s K') (hp : ∀ r s', K' r s' → ∀ (ρ : Env) (a : Act) (w : World) (v : Value), Rel ρ s' a w → VR w ρ v r → ∃ r2 s2 ρ2, K r2 s2 ∧ Rel ρ2 s2 a w ∧ VR w ρ2 v r2 ∧ St fx ρ w ρ2 w) : ACall P fx f args s K :=
  fun ρ a w vf vs hr hvf hvl hv => (h ρ a w vf vs hr hvf hvl hv).mono fun v w' ⟨r, s', ρ', k1, k2, k3, k4⟩ => by
    obtain ⟨r2, s2, ρ2, g1, g2, g3, g4⟩ := hp r s' k1 ρ' a w' v k2 k3
    exact ⟨r2, s2, ρ2, g1, g2, g3, k4.trans g4⟩

/-- A contract about one value with memory of its own, where it is one of several. -/
theorem ACalls.item {f : FuncId} {args : List AV} {v : Value} {x x' : AV} {u : Value} (h : ∀ S, ACalls P f args [.forest S [(v, x)]] [0] (fun r L => r = .val u ∧ ∃ S', L = [.forest S' [(v, x')]])) (hfree : freeL args = true) {S : Nat → Prop} {items : List (Value × AV)} {i : Nat} (hi : items[i]? = some (v, x)) :
    ACalls P f args [.forest S items] [0] (fun r L => r = .val u ∧ ∃ S', L = [.forest S' (items.set i (v, x'))]) := by
  refine ⟨(h (fun _ => False)).1, fun ρ w vs hr hvl hv => ?_⟩
  have hl1 : ρ.l.length = 1 := by rw [hr.len]; rfl
  have hρ0 : ρ.l[0]? = some none := by
    have h0 := List.getElem?_eq_getElem (l := ρ.l) (i := 0) (by omega)
    rw [h0, (hr.ent 0 _ _ rfl h0).1]
  have f0 := (hr.ent 0 _ _ rfl hρ0).2
  obtain ⟨S1, S2, o1, o2, o3, o4, o5⟩ := f0.out hi
  have hT : ∀ b, S b → ρ.T b := fun b hb => hr.t.sub 0 _ _ b rfl hb
  have hle : ρ.l = [none] := by
    match hm : ρ.l, hl1 with
    | [y], _ => rw [hm] at hρ0; simp at hρ0; rw [hρ0]
  have nol : ∀ b, ¬ ownl ρ b := fun b ⟨q, base, hq⟩ => by
    rw [hle] at hq
    cases q <;> simp at hq
  let ρ1 : Env := { l := [none], X := fun b => no ρ b ∧ ¬ S2 b, T := S2 }
  have own1 : ∀ b, own ρ1 b ↔ S2 b := fun b => ⟨fun hb => hb.elim (fun ⟨q, base, hq⟩ => by cases q <;> simp [ρ1] at hq) id, .inr⟩
  have hno1 : ∀ b, no ρ1 b → no ρ b := fun b hb => hb.elim (fun h => .inl (.inr (hT b (o5 b ((own1 b).1 h))))) (fun h => h.1)
  have hr1 : HR w ρ1 [.forest S2 [(v, x)]] := by
    refine ⟨rfl, fun b hb => hb.1.elim (own_lt hr) (hr.xlt b), fun b hb hx => hx.2 ((own1 b).1 hb), fun q q' b base base' h1 => by cases q <;> simp [ρ1] at h1, fun q o l h1 h2 => ?_, ⟨fun b hb => hr.t.lt b (hT b (o5 b hb)), fun b q base _ h1 => by cases q <;> simp [ρ1] at h1, fun q S' l b h1 hb => ?_, fun q q' S' S'' l l' b h1 h2 _ _ => ?_⟩⟩
    · cases q with
      | zero => simp [ρ1] at h1 h2; subst h1; subst h2; exact ⟨rfl, Forest.one.2 o2⟩
      | succ q => simp at h1
    · cases q with
      | zero => simp at h1; obtain ⟨rfl, _⟩ := h1; exact hb
      | succ q => simp at h1
    · cases q <;> simp at h1
      cases q' <;> simp at h2
      rfl
  refine ((h S2).2 ρ1 w vs hr1 hvl fun j u x hj hx => ?_).mono fun e w' ⟨u', res, L', ρ', he, ⟨hres, S', hL'⟩, _, hvr, hhr, hst⟩ => ?_
  · have hxf := freeL_mem hfree (List.mem_of_getElem? hx)
    have := (hv j u x hj hx).mono (w' := w) (ρ' := ρ1) .refl (fun b _ hb => hno1 b hb) (fun _ => false) (fun r l hp => by cases hp)
    rwa [AV.free_filt hxf] at this
  · subst hres; subst hL'
    have hl' : ρ'.l = [none] := by
      have h0 := hst.fix 0 (by simp) none rfl
      match hm : ρ'.l, hhr.len with
      | [y], _ => rw [hm] at h0; simp at h0; rw [h0]
    have nol' : ∀ b, ¬ ownl ρ' b := fun b ⟨q, base, hq⟩ => by
      rw [hl'] at hq
      cases q <;> simp at hq
    have hX : ∀ b, ρ'.X b ↔ no ρ b ∧ ¬ S2 b := fun b => by rw [hst.x]
    let ρn : Env := { l := [none], X := ρ.X, T := fun b => (ρ.T b ∧ ¬ S2 b) ∨ ρ'.T b }
    have nown : ∀ b, own ρn b → (ρ.T b ∧ ¬ S2 b) ∨ ρ'.T b := fun b hb => hb.elim (fun ⟨q, base, hq⟩ => by cases q <;> simp [ρn] at hq) id
    have oldT : ∀ b, b < w.heap.size → ρ'.T b → S2 b := fun b hlt hb => (own1 b).1 (hst.sub b hlt (.inr hb))
    have hfr : Fr (own ρ) w w' := ⟨hst.fr.le, fun b hb hno => hst.fr.same b hb fun h => hno (.inr (hT b (o5 b ((own1 b).1 h)))), hst.fr.size, hst.fr.os, hst.fr.out, hst.fr.tape⟩
    have hsame : ∀ b, b < w.heap.size → ¬ S2 b → w'.heap[b]? = w.heap[b]? := fun b hb hn => hst.fr.same b hb fun h => hn ((own1 b).1 h)
    have f1 := hhr.ent 0 _ none rfl (by rw [hl']; rfl)
    have t1 := Forest.one.1 f1.2
    have g1 : Forest w' S1 (items.set i (v, .val v)) := o1.keep fun b hb hlt => hsame b hlt fun h => o3 b hb h
    have hd1 : ∀ b, S1 b → S' b → False := fun b h1 h2 => o3 b h1 (oldT b (hr.t.lt b (hT b (o4 b h1))) (hhr.t.sub 0 _ _ b rfl h2))
    have hlen : i < items.length := (List.getElem?_eq_some_iff.1 hi).1
    have g2 := g1.put (i := i) (v := v) (u := v) (List.getElem?_set_self hlen) t1 hd1
    rw [List.set_set] at g2
    refine ⟨u', _, _, ρn, he, ⟨rfl, fun b => S1 b ∨ S' b, rfl⟩, Nat.le_refl _, by have := val_inv hvr; subst this; exact .pr (.val _), ⟨rfl, fun b hb => Nat.lt_of_lt_of_le (hr.xlt b hb) hfr.le, fun b hb hx => ?_, fun q q' b base base' h1 => by cases q <;> simp [ρn] at h1, fun q o l h1 h2 => ?_, ⟨fun b hb => ?_, fun b q base _ h1 => by cases q <;> simp [ρn] at h1, fun q S'' l b h1 hb => ?_, fun q q' S' S'' l l' b h1 h2 _ _ => ?_⟩⟩,
      ⟨hfr, fun b hlt hb => ?_, fun q hq y hy => ?_, rfl⟩⟩
    · rcases nown b hb with ⟨h1, _⟩ | h1
      · exact hr.disj b (.inr h1) hx
      · exact hhr.disj b (.inr h1) ((hX b).2 ⟨.inr hx, fun h2 => hr.disj b (.inr (hT b (o5 b h2))) hx⟩)
    · cases q with
      | zero => simp [ρn] at h1 h2; subst h1; subst h2; exact ⟨rfl, g2⟩
      | succ q => simp at h1
    · rcases hb with ⟨h1, _⟩ | h1
      · exact Nat.lt_of_lt_of_le (hr.t.lt b h1) hfr.le
      · exact hhr.t.lt b h1
    · cases q with
      | succ q => simp at h1
      | zero =>
        simp at h1; obtain ⟨rfl, _⟩ := h1
        rcases hb with hb | hb
        · exact .inl ⟨hT b (o4 b hb), fun h => o3 b hb h⟩
        · exact .inr (hhr.t.sub 0 _ _ b rfl hb)
    · cases q <;> simp at h1
      cases q' <;> simp at h2
      rfl
    · rcases nown b hb with ⟨h1, _⟩ | h1
      · exact .inr h1
      · exact .inr (hT b (o5 b (oldT b hlt h1)))
    · simp at hq; subst hq
      rw [hρ0] at hy; cases hy; rfl

/-- One of several values with memory of their own is handed over, and written to. -/
theorem acall_item {f : FuncId} {args : List AV} {v : Value} {x x' : AV} {u : Value} (h : ∀ S, ACalls P f args [.forest S [(v, x)]] [0] (fun r L => r = .val u ∧ ∃ S', L = [.forest S' [(v, x')]])) (r i : Nat) {s : AS} {S : Nat → Prop} {items : List (Value × AV)} (hL : s.L[r]? = some (.forest S items)) (hi : items[i]? = some (v, x)) (hfree : freeL args = true)
    {K : AV → AS → Prop} (hK : ∀ S', K (.val u) { s with L := s.L.set r (.forest S' (items.set i (v, x'))) }) : ACall P fx (.fn f []) args s K :=
  acall_blk (R := fun r o => r = .val u ∧ ∃ S', o = .forest S' (items.set i (v, x'))) ((ACalls.item h hfree hi).mono fun _ _ ⟨h1, S', h2⟩ => ⟨_, h2, h1, S', rfl⟩) r hL (by rw [freeL_ren' _ _ hfree]) fun res o' ⟨h1, S', h2⟩ => by
    subst h1; subst h2
    simpa [AV.ren, OB.ren] using hK S'

/-! ### Calls that read what is own -/

mutual
/-- What a call may hand back where it was handed own memory to read: nothing that lies in memory that is not own. -/
def AV.dry : AV → Bool
  | .any | .val _ | .ptr _ _ | .vp _ _ _ _ | .os _ _ _ _ => true
  | .agg l => dryL l
  | .tup l => dryL l
  | .sl _ | .ip _ | .fn _ _ => false
def dryL : List AV → Bool
  | [] => true
  | x :: l => x.dry && dryL l
end
theorem dryL_get : ∀ {l : List AV} {i : Nat} {x : AV}, dryL l = true → l[i]? = some x → x.dry = true
  | [], _, _, _, h => by simp at h
  | y :: l, 0, x, h, hx => by simp at hx; subst hx; simp [dryL] at h; exact h.1
  | y :: l, i + 1, x, h, hx => by simp [dryL] at h; exact dryL_get h.2 (by simpa using hx)

def OB.dry : OB → Bool
  | .dead => true
  | .cells _ => false
  | .slab _ => false
  | .vec _ es => exactR es
  | .forest _ _ => true
def OB.dryL : List OB → Bool
  | [] => true
  | o :: l => o.dry && OB.dryL l
theorem OB.dryL_get : ∀ {l : List OB} {i : Nat} {o : OB}, OB.dryL l = true → l[i]? = some o → o.dry = true
  | [], _, _, _, h => by simp at h
  | y :: l, 0, x, h, hx => by simp at hx; subst hx; simp [OB.dryL] at h; exact h.1
  | y :: l, i + 1, x, h, hx => by simp [OB.dryL] at h; exact OB.dryL_get h.2 (by simpa using hx)

theorem VR.dry {w : World} {ρ ρ' : Env} {v : Value} {x : AV} (h : VR w ρ v x) (hx : x.dry = true) (σ : Nat → Nat) (hσ : ∀ (r : Nat) l, ρ.l[r]? = some l → ρ'.l[σ r]? = some l) : VR w ρ' v (x.ren σ) := by
  induction h with
  | pr h =>
    cases h with
    | any => simp only [AV.ren]; exact .pr (.any _)
    | val => simp only [AV.ren]; exact .pr (.val _)
    | slnil => simp [AV.dry] at hx
    | sl => simp [AV.dry] at hx
  | agg c l hs _ ih =>
    simp only [AV.dry] at hx
    simp only [AV.ren, renL_map]
    refine .agg c _ (by simpa using hs) fun i v x hv hx' => ?_
    rw [List.getElem?_map] at hx'
    cases hl : l[i]? with
    | none => simp [hl] at hx'
    | some y => simp [hl] at hx'; subst hx'; exact ih i v y hv hl (dryL_get hx hl)
  | tup c l hs _ ih =>
    simp only [AV.dry] at hx
    simp only [AV.ren, renL_map]
    refine .tup c _ (by simpa using hs) fun i v x hv hx' => ?_
    rw [List.getElem?_map] at hx'
    cases hl : l[i]? with
    | none => simp [hl] at hx'
    | some y => simp [hl] at hx'; subst hx'; exact ih i v y hv hl (dryL_get hx hl)
  | ip => simp [AV.dry] at hx
  | ptr r off b base hr => simp only [AV.ren]; exact .ptr _ off b base (hσ _ _ hr)
  | vp r k i off b base hr => simp only [AV.ren]; exact .vp _ k i off b base (hσ _ _ hr)
  | osnil r k hr => simp only [AV.ren]; exact .osnil _ k (hσ _ _ hr)
  | osz r k off a b base hr => simp only [AV.ren]; exact .osz _ k off a b base (hσ _ _ hr)
  | os r k off n c b base cs e fz hr hc hb hsz => simp only [AV.ren]; exact .os _ k off n c b base cs e fz (hσ _ _ hr) hc hb hsz
  | fn => simp [AV.dry] at hx

/-- What is own, read as something immutable. -/
inductive Bor (L : List OB) : AV → AV → Prop
  | free (x : AV) (h : x.free = true) : Bor L x x
  | item (r i : Nat) (S : Nat → Prop) (items : List (Value × AV)) (v : Value) (x : AV) (h : L[r]? = some (.forest S items)) (hi : items[i]? = some (v, x)) : Bor L (.val v) x
  | row (r k n : Nat) (es : List (List AV)) (h : L[r]? = some (.vec k es)) (hn : n = es.length) : Bor L (.os r k 0 n) (.sl es)
  | part (r k off n : Nat) (es : List (List AV)) (h : L[r]? = some (.vec k es)) (hn : off + n ≤ es.length) : Bor L (.os r k off n) (.sl ((es.drop off).take n))
  | agg (l l' : List AV) (hl : l.length = l'.length) (h : ∀ (i : Nat) x y, l[i]? = some x → l'[i]? = some y → Bor L x y) : Bor L (.agg l) (.agg l')
  | ptr (r : Nat) (cs : List AV) (h : L[r]? = some (.cells cs)) (hp : cs.all AV.pure = true) : Bor L (.ptr r 0) (.ip cs)

def BorL (L : List OB) : List AV → List AV → Prop
  | [], [] => True
  | x :: l, y :: l' => Bor L x y ∧ BorL L l l'
  | _, _ => False
theorem BorL.get {L : List OB} : ∀ {l l' : List AV}, BorL L l l' → l.length = l'.length ∧ ∀ (i : Nat) x y, l[i]? = some x → l'[i]? = some y → Bor L x y
  | [], [], _ => ⟨rfl, by simp⟩
  | x :: l, y :: l', h => by
    obtain ⟨h1, h2⟩ := BorL.get h.2
    refine ⟨by simp [h1], fun i a b ha hb => ?_⟩
    cases i with
    | zero => simp at ha hb; subst ha; subst hb; exact h.1
    | succ i => exact h2 i a b (by simpa using ha) (by simpa using hb)
  | [], _ :: _, h => h.elim
  | _ :: _, [], h => h.elim
theorem Bor.aggL {L : List OB} {l l' : List AV} (h : BorL L l l') : Bor L (.agg l) (.agg l') := .agg l l' h.get.1 h.get.2

def rhoNone : Env := { l := [], X := fun _ => False }
theorem rhoNone_own : ∀ b, ¬ own rhoNone b := fun b hb => by
  rcases hb with ⟨j, base, hj⟩ | hb
  · simp [rhoNone] at hj
  · exact hb
theorem rhoNone_no : ∀ b, ¬ no rhoNone b := fun b hb => hb.elim (rhoNone_own b) id

theorem VR.bor {w : World} {ρ : Env} {L : List OB} (hh : HR w ρ L) {x y : AV} (hb : Bor L x y) : ∀ {v : Value}, VR w ρ v x → VR w rhoNone v y := by
  induction hb with
  | free x h =>
    intro v hv
    have := hv.mono (w' := w) (ρ' := rhoNone) .refl (fun b _ hb => (rhoNone_no b hb).elim) (fun _ => false) (fun r l hp => by cases hp)
    rwa [AV.free_filt h] at this
  | item r i S items v x h hi =>
    intro u hu
    have := val_inv hu
    subst this
    have hlt : r < ρ.l.length := by rw [hh.len]; exact (List.getElem?_eq_some_iff.1 h).1
    obtain ⟨F, _, _, f3⟩ := (hh.ent r _ _ h (List.getElem?_eq_getElem hlt)).2
    exact .pr ((f3 i _ _ hi).pr fun b _ => rhoNone_no b)
  | row r k n es h hn =>
    intro v hv
    have h1 := hv.frz hh h
    have e : AV.frz r k es (.os r k 0 n) = .sl es := by
      simp only [AV.frz, if_true, Nat.zero_add, true_and]
      rw [if_pos (by omega), List.drop_zero, List.take_of_length_le (by omega)]
    rw [e] at h1
    cases h1 with
    | pr h1 => exact .pr (h1.mono (fun _ _ _ => rfl) (Nat.le_refl _) (fun b _ hb => (rhoNone_no b hb).elim))
  | part r k off n es h hn =>
    intro v hv
    have h1 := hv.frz hh h
    have e : AV.frz r k es (.os r k off n) = .sl ((es.drop off).take n) := by
      simp only [AV.frz, if_true, true_and]
      rw [if_pos hn]
    rw [e] at h1
    cases h1 with
    | pr h1 => exact .pr (h1.mono (fun _ _ _ => rfl) (Nat.le_refl _) (fun b _ hb => (rhoNone_no b hb).elim))
  | agg l l' hl h ih =>
    intro v hv
    cases hv with
    | pr hp => cases hp
    | agg c _ hs hc =>
      refine .agg c l' (by omega) fun i u y hu hy => ?_
      have hi : i < l.length := by rw [hl]; exact (List.getElem?_eq_some_iff.1 hy).1
      exact ih i _ y (List.getElem?_eq_getElem hi) hy (hc i u _ hu (List.getElem?_eq_getElem hi))
  | ptr r cs h hp =>
    intro v hv
    cases hv with
    | pr hp => cases hp
    | ptr _ _ b base hb =>
      obtain ⟨b', c, e, g1, g2, g3, g4⟩ := hh.ent r _ _ h hb
      cases g1
      have hlt : b < w.heap.size := by
        rcases Nat.lt_or_ge b w.heap.size with h | h
        · exact h
        · rw [Array.getElem?_eq_none h] at g2; cases g2
      refine .ip b 0 cs (fun j => c[j]?.getD undef) (rhoNone_no b) hlt (fun j x hx => ?_) fun j x hx => ?_
      · have hj : j < c.size := by rw [g3]; exact (List.getElem?_eq_some_iff.1 hx).1
        simp [World.cell?, g2, hj]
      · have hj : j < c.size := by rw [g3]; exact (List.getElem?_eq_some_iff.1 hx).1
        simp only [Array.getElem?_eq_getElem hj, Option.getD_some]
        have hv := g4 j _ x (Array.getElem?_eq_getElem hj) hx
        have hpx : x.pure = true := List.all_eq_true.1 hp _ (List.mem_of_getElem? hx)
        have hpr : PR w (no ρ) c[j] x := by
          generalize c[j] = u at hv
          cases hv with
          | pr h => exact h
          | _ => simp [AV.pure] at hpx
        exact hpr.mono (fun _ _ _ => rfl) (Nat.le_refl _) (fun b _ hb => (rhoNone_no b hb).elim)

/-- A call that reads own memory, and hands back what is exact, or own. -/
theorem acall_bor {f : FuncId} {args' : List AV} {R : AV → List OB → Prop} (h : ACalls P f args' [] [] R) {args : List AV} {s : AS} (hb : BorL s.L args args') (hd : ∀ r L, R r L → r.dry = true ∧ OB.dryL L = true)
    {K : AV → AS → Prop} (hK : ∀ r L', R r L' → K (r.ren (s.L.length + ·)) { s with L := s.L ++ L'.map (OB.ren (s.L.length + ·)) }) : ACall P fx (.fn f []) args s K := by
  intro ρ a w vf vs hr hvf hvl hv
  obtain ⟨hent, hcalls⟩ := h
  obtain ⟨bl, bg⟩ := hb.get
  cases hvf with
  | pr hp => cases hp
  | fn f cv _ hs hc =>
  simp only [Deferred.ofValue, Sem.run_bind, Sem.run_pure, Result.andThen_ok, invoke, Array.empty_append]
  rw [hent]
  simp only [Out]
  have hcv : cv = #[] := Array.size_eq_zero_iff.1 (by simpa using hs)
  subst hcv
  rw [Array.append_empty]
  have hHR : HR w rhoNone [] := ⟨rfl, fun b hb => hb.elim, fun b hb => (rhoNone_own b hb).elim, fun j j' b base base' h1 => by simp [rhoNone] at h1, fun j o l h1 => by simp at h1, ⟨fun b hb => (False.elim hb), fun b j base hb => (False.elim hb), fun j S items b h1 => by simp at h1, fun j j' S S' items items' b h1 => by simp at h1⟩⟩
  refine (hcalls rhoNone w vs hHR (by omega) fun i v y h1 h2 => ?_).mono fun e w' ⟨v, res, L', ρ', he, hR, hle, hvr, hhr, hst⟩ => ?_
  · have hi : i < args.length := by rw [bl]; exact (List.getElem?_eq_some_iff.1 h2).1
    exact (hv i v _ h1 (List.getElem?_eq_getElem hi)).bor hr.hr (bg i _ y (List.getElem?_eq_getElem hi) h2)
  · obtain ⟨d1, d2⟩ := hd res L' hR
    have hg : Grow w w' := ⟨hst.fr.le, fun b hb _ => hst.fr.same b hb (rhoNone_own b), hst.fr.size, hst.fr.os, hst.fr.out, hst.fr.tape⟩
    have hnew : ∀ b, own ρ' b → w.heap.size ≤ b := fun b hb => Nat.le_of_not_lt fun hlt => rhoNone_own b (hst.sub b hlt hb)
    let ρn : Env := { l := ρ.l ++ ρ'.l, X := ρ.X, T := fun b => ρ.T b ∨ ρ'.T b }
    have hlen := hr.hr.len
    have inv : ∀ {q : Nat} {b base : Nat}, ρn.l[q]? = some (some (b, base)) → (q < ρ.l.length ∧ ρ.l[q]? = some (some (b, base))) ∨ (ρ.l.length ≤ q ∧ ρ'.l[q - ρ.l.length]? = some (some (b, base))) := fun {q b base} hq => by
      simp only [ρn] at hq
      by_cases hl : q < ρ.l.length
      · rw [List.getElem?_append_left hl] at hq; exact .inl ⟨hl, hq⟩
      · rw [List.getElem?_append_right (by omega)] at hq; exact .inr ⟨by omega, hq⟩
    have hown : ∀ b, own ρn b → own ρ b ∨ own ρ' b := fun b hb => by
      rcases hb with ⟨q, base, hq⟩ | hb | hb
      · rcases inv hq with ⟨_, h⟩ | ⟨_, h⟩
        · exact .inl (.l h)
        · exact .inr (.l h)
      · exact .inl (.inr hb)
      · exact .inr (.inr hb)
    have old : ∀ (r : Nat) l, ρ.l[r]? = some l → ρn.l[r]? = some l := fun r l hl => by
      simp only [ρn]
      rw [List.getElem?_append_left (List.getElem?_eq_some_iff.1 hl).1]; exact hl
    have new : ∀ (r : Nat) l, ρ'.l[r]? = some l → ρn.l[s.L.length + r]? = some l := fun r l hl => by
      simp only [ρn]
      rw [List.getElem?_append_right (by omega), ← hl]
      congr 1; omega
    have hno : ∀ b, b < w.heap.size → no ρn b → no ρ b := fun b hlt hb => by
      rcases hb with hb | hb
      · rcases hown b hb with h | h
        · exact .inl h
        · have := hnew b h; omega
      · exact .inr hb
    have keep : ∀ {v x}, VR w ρ v x → VR w' ρn v x := fun hv => hv.keep (hg.fr _) hno old
    have keepP : ∀ {v x}, PR w (no ρ) v x → PR w' (no ρn) v x := fun hv => hv.mono (fun b hb _ => hg.same b hb (fun h => h)) hg.le hno
    have hfo : ∀ {q : Nat} {S : Nat → Prop} {l : List (Value × AV)}, (s.L ++ L'.map (OB.ren (s.L.length + ·)))[q]? = some (.forest S l) → (q < s.L.length ∧ s.L[q]? = some (.forest S l)) ∨ (s.L.length ≤ q ∧ L'[q - s.L.length]? = some (.forest S l)) := fun {q S l} hq => by
      by_cases hl : q < s.L.length
      · rw [List.getElem?_append_left hl] at hq; exact .inl ⟨hl, hq⟩
      · rw [List.getElem?_append_right (by omega), List.getElem?_map] at hq
        cases ho : L'[q - s.L.length]? with
        | none => simp [ho] at hq
        | some o =>
          cases o <;> simp [ho, OB.ren] at hq
          exact .inr ⟨by omega, by rw [hq.1, hq.2]⟩
    refine ⟨v, he, _, _, ρn, hK res L' hR, ⟨hr.dfr, hr.size, fun i u x h1 h2 => keep (hr.tm i u x h1 h2), ⟨by simp [ρn, hlen, hhr.len], fun b hb => Nat.lt_of_lt_of_le (hr.hr.xlt b hb) hg.le, fun b hb hx => ?_, fun q q' b base base' h1 h2 => ?_, fun q o l h1 h2 => ?_,
      ⟨fun b hb => ?_, fun b q base hb hq => ?_, fun q S l b hq hS => ?_, fun q q' S S' l l' b h1 h2 hS hS' => ?_⟩⟩⟩, hvr.dry d1 _ new, ⟨hg.fr _, fun b hlt hb => ?_, fun q _ x hx => old q x hx, rfl⟩⟩
    · rcases hown b hb with h | h
      · exact hr.hr.disj b h hx
      · have := hnew b h; have := hr.hr.xlt b hx; omega
    · rcases inv h1 with ⟨n1, g1⟩ | ⟨n1, g1⟩ <;> rcases inv h2 with ⟨n2, g2⟩ | ⟨n2, g2⟩
      · exact hr.hr.inj _ _ _ _ _ g1 g2
      · have := own_lt hr.hr (.l g1); have := hnew b (.l g2); omega
      · have := own_lt hr.hr (.l g2); have := hnew b (.l g1); omega
      · have := hhr.inj _ _ _ _ _ g1 g2; omega
    · by_cases hl : q < s.L.length
      · rw [List.getElem?_append_left hl] at h1
        simp only [ρn] at h2
        rw [List.getElem?_append_left (by omega)] at h2
        have he := hr.hr.ent q o l h1 h2
        cases o with
        | dead => exact he
        | cells cs =>
          obtain ⟨b, c, e, g1, g2, g3, g4⟩ := he
          exact ⟨b, c, e, g1, by rw [hg.same b (Array.getElem?_eq_some_iff.1 g2).1 (fun h => h)]; exact g2, g3, fun i v x h5 h6 => keep (g4 i v x h5 h6)⟩
        | slab cs =>
          rcases he with ⟨hz1, hz2⟩ | ⟨b, base0, c, e, g1, g2, g3, g4⟩
          · exact .inl ⟨hz1, by simpa using hz2⟩
          exact .inr ⟨b, base0, c, e, g1, by rw [hg.same b (Array.getElem?_eq_some_iff.1 g2).1 (fun h => h)]; exact g2, g3, fun i v x h5 h6 => keep (g4 i v x h5 h6)⟩
        | vec k es =>
          obtain ⟨h0, hl', hd⟩ := he
          refine ⟨h0, hl', ?_⟩
          rcases hd with hd | ⟨b, base, c, e, g1, g2, g3, g4⟩
          · exact .inl hd
          · exact .inr ⟨b, base, c, e, g1, by rw [hg.same b (Array.getElem?_eq_some_iff.1 g2).1 (fun h => h)]; exact g2, g3,
              fun i j ei x h5 h6 => let ⟨v, h7, h8⟩ := g4 i j ei x h5 h6; ⟨v, h7, keepP h8⟩⟩
        | forest S l => exact ⟨he.1, he.2.keep fun b _ hb => hg.same b hb (fun h => h)⟩
      · rw [List.getElem?_append_right (by omega), List.getElem?_map] at h1
        simp only [ρn] at h2
        rw [List.getElem?_append_right (by omega), hlen] at h2
        cases ho : L'[q - s.L.length]? with
        | none => simp [ho] at h1
        | some o' =>
          simp [ho] at h1; subst h1
          have he := hhr.ent _ o' l ho h2
          have hdo := OB.dryL_get d2 ho
          cases o' with
          | dead => exact he
          | cells cs => simp [OB.dry] at hdo
          | slab cs => simp [OB.dry] at hdo
          | forest S l => exact he
          | vec k es =>
            obtain ⟨h0, hl', hd⟩ := he
            refine ⟨h0, hl', ?_⟩
            rcases hd with hd | ⟨b, base, c, e, g1, g2, g3, g4⟩
            · exact .inl hd
            · refine .inr ⟨b, base, c, e, g1, g2, g3, fun i j ei x h5 h6 => ?_⟩
              obtain ⟨v, h7, h8⟩ := g4 i j ei x h5 h6
              obtain ⟨u, rfl⟩ := exactR_get (by simpa [OB.dry] using hdo) h5 h6
              cases h8
              exact ⟨_, h7, .val _⟩
    · rcases hb with hb | hb
      · exact Nat.lt_of_lt_of_le (hr.hr.t.lt b hb) hg.le
      · exact hhr.t.lt b hb
    · rcases hb with hb | hb <;> rcases inv hq with ⟨n1, g1⟩ | ⟨n1, g1⟩
      · exact hr.hr.t.dl b q base hb g1
      · have := hr.hr.t.lt b hb; have := hnew b (.l g1); omega
      · have := own_lt hr.hr (.l g1); have := hnew b (.inr hb); omega
      · exact hhr.t.dl b _ base hb g1
    · rcases hfo hq with ⟨_, h1⟩ | ⟨_, h1⟩
      · exact .inl (hr.hr.t.sub _ _ _ b h1 hS)
      · exact .inr (hhr.t.sub _ _ _ b h1 hS)
    · rcases hfo h1 with ⟨n1, g1⟩ | ⟨n1, g1⟩ <;> rcases hfo h2 with ⟨n2, g2⟩ | ⟨n2, g2⟩
      · exact hr.hr.t.dis _ _ _ _ _ _ b g1 g2 hS hS'
      · have := hr.hr.t.lt b (hr.hr.t.sub _ _ _ b g1 hS); have := hnew b (.inr (hhr.t.sub _ _ _ b g2 hS')); omega
      · have := hr.hr.t.lt b (hr.hr.t.sub _ _ _ b g2 hS'); have := hnew b (.inr (hhr.t.sub _ _ _ b g1 hS)); omega
      · have := hhr.t.dis _ _ _ _ _ _ b g1 g2 hS hS'; omega
    · rcases hown b hb with h | h
      · exact h
      · have := hnew b h; omega

/-- A call that only tells something about what it reads. -/
theorem acall_tell {f : FuncId} {args' : List AV} {u : Value} (h : ACalls P f args' [] [] (fun r L => r = .val u ∧ L = [])) {args : List AV} {s : AS} (hb : BorL s.L args args') {K : AV → AS → Prop} (hK : K (.val u) s) : ACall P fx (.fn f []) args s K :=
  acall_bor h hb (fun r L ⟨h1, h2⟩ => by subst h1; subst h2; exact ⟨rfl, rfl⟩) fun r L ⟨h1, h2⟩ => by
    subst h1; subst h2
    simpa [AV.ren] using hK

/-- What a call makes is put beside what is there. -/
theorem acall_mrg {f : FuncId} {args : List AV} {x : AV} {res : Value → AV} (h : ACalls P f args [] [] (fun r L => ∃ S v, v.oneCell' = true ∧ r = res v ∧ L = [.forest S [(v, x)]])) (hfree : freeL args = true) (hres : ∀ v, (res v).free = true) (r : Nat) {s : AS} {S : Nat → Prop} {items : List (Value × AV)} (hL : s.L[r]? = some (.forest S items))
    {K : AV → AS → Prop} (hK : ∀ S' v, v.oneCell' = true → K (res v) { s with L := s.L.set r (.forest S' (items ++ [(v, x)])) ++ [.dead] }) : ACall P fx (.fn f []) args s K := by
  have hrl : r < s.L.length := (List.getElem?_eq_some_iff.1 hL).1
  refine acall_post (K' := fun y t => ∃ S2 v, v.oneCell' = true ∧ y = res v ∧ t = { s with L := s.L ++ [.forest S2 [(v, x)]] }) (acall h s [] List.nodup_nil rfl (fun j r o h => by simp at h) (fun j r h => by simp at h) (by rw [freeL_ren' _ _ hfree, List.append_nil]) fun y L' ⟨S2, v, h0, h1, h2⟩ _ => ?_) ?_
  · subst h1; subst h2
    refine ⟨S2, v, h0, by rw [AV.free_ren _ _ (hres v)], ?_⟩
    have := AS.back_nil s
    simp only [AS.back] at this ⊢
    simp only [List.map_nil, List.drop_nil, List.append_nil] at this
    have e1 := congrArg AS.tm this
    have e2 := congrArg AS.L this
    simp only [setAll] at e1 e2 ⊢
    simp only [e1, e2, OB.ren, List.map_cons, List.map_nil, List.length_nil, List.drop_zero]
  · rintro y t ⟨S2, v, h0, rfl, rfl⟩ ρ a w u hr hu
    have h1 : (s.L ++ [OB.forest S2 [(v, x)]])[r]? = some (.forest S items) := by rw [List.getElem?_append_left hrl]; exact hL
    have h2 : (s.L ++ [OB.forest S2 [(v, x)]])[s.L.length]? = some (.forest S2 [(v, x)]) := by simp
    have hlt : ∀ {q : Nat} {o : OB}, (s.L ++ [OB.forest S2 [(v, x)]])[q]? = some o → q < ρ.l.length := fun {q o} ho => by rw [hr.hr.len]; exact (List.getElem?_eq_some_iff.1 ho).1
    have f1 := (hr.hr.ent r _ _ h1 (List.getElem?_eq_getElem (hlt h1))).2
    have f2 := (hr.hr.ent _ _ _ h2 (List.getElem?_eq_getElem (hlt h2))).2
    have hne : r ≠ s.L.length := by omega
    have hd : ∀ b, S b → S2 b → False := fun b hb hb' => hne (hr.hr.t.dis _ _ _ _ _ _ b h1 h2 hb hb')
    have hj := hr.hr.join hne h1 h2 (S' := fun b => S b ∨ S2 b) (fun _ h => h) (f1.append f2 hd)
    refine ⟨_, _, ρ, hK (fun b => S b ∨ S2 b) v h0, ?_, hu, .refl⟩
    have e : ((s.L ++ [OB.forest S2 [(v, x)]]).set r (.forest (fun b => S b ∨ S2 b) (items ++ [(v, x)]))).set s.L.length .dead = s.L.set r (.forest (fun b => S b ∨ S2 b) (items ++ [(v, x)])) ++ [.dead] := by
      rw [List.set_append_left _ _ hrl, List.set_append_right _ _ (by simp)]
      simp
    rw [e] at hj
    exact hr.refor hj

/-- A contract that yields an own row, told as one that yields an immutable one. -/
theorem ACalls.frozen {P : Program} {f : FuncId} {args : List AV} {k : Nat} {es : List (List AV)} {n : Nat} (h : ACalls P f args [] [] (fun r L => r = .os 0 k 0 n ∧ L = [.vec k es])) (hn : n = es.length) : ACalls P f args [] [] (fun r L => r = .sl es ∧ L = []) :=
  h.fin fun r L ⟨h1, h2⟩ _ => by subst h1; subst h2; exact fin_row rfl hn ⟨rfl, rfl⟩

/-- And as one that yields a value with memory of its own. -/
theorem ACalls.treed {P : Program} {f : FuncId} {args : List AV} {k : Nat} {es : List (List AV)} {n : Nat} (h : ACalls P f args [] [] (fun r L => r = .os 0 k 0 n ∧ L = [.vec k es])) (hn : n = es.length) (hx : exactR es = true) :
    ACalls P f args [] [] (fun r L => ∃ S v, v.oneCell' = true ∧ r = .val v ∧ L = [.forest S [(v, .sl es)]]) :=
  h.fin fun r L ⟨h1, h2⟩ _ => by
    subst h1; subst h2
    exact fin_close rfl hx (by simp) hn fun S v hv => fin_ks [0] (.val v) [.forest S [(v, .sl es)]] ⟨S, v, hv, rfl, rfl⟩ rfl ⟨rfl, trivial⟩ (by simp) (by simp) (by simp)

/-- An own row that is handed back. -/
theorem fin_own {R : AV → List OB → Prop} {s : AS} {r k n : Nat} {es : List (List AV)} (hL : s.L[r]? = some (.vec k es)) (hR : R (.os 0 k 0 n) [.vec k es]) : Fin [] 0 R s (.os r k 0 n) :=
  fin_ks [r] (.os 0 k 0 n) [.vec k es] hR (by simp [AV.ren, nameK]) ⟨hL, trivial⟩ (by simp) (by simp) (by simp)
end

end Go.Pc

/- The abstract logic, fifteenth part: regions that draw their order, with a literal at the end of the head. -/
namespace Go.Pc
open Go

section
variable {P : Program} {T : TypeId → Ty} {fx bl : List Nat}

end

end Go.Pc
