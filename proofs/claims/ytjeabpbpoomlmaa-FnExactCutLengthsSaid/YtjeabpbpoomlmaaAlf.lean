/- The abstract logic, last part: values with all their memory in blocks of its own: made, joined, taken apart, read, written, made immutable. -/
import Derived.Test.YtjeabpbpoomlmaaAls
set_option linter.unusedSimpArgs false
set_option linter.unusedVariables false
namespace Go.Pc
open Go

section
variable {P : Program} {T : TypeId → Ty} {fx bl : List Nat}

/-! ### Values and their memory -/

/-- A row of which a column is told by exact values. -/
def rowsK (j0 : Nat) (es : List (List AV)) (kv : List Value) : List (List AV) := List.zipWith (fun e v => e.set j0 (.val v)) es kv
/-- The parts that hang there. -/
def itemsK (j0 : Nat) (es : List (List AV)) (kv : List Value) : List (Value × AV) := List.zipWith (fun e v => (v, e.getD j0 .any)) es kv

theorem zw_get {α β γ : Type} {f : α → β → γ} {l : List α} {m : List β} {i : Nat} {a : α} {b : β} (h1 : l[i]? = some a) (h2 : m[i]? = some b) : (List.zipWith f l m)[i]? = some (f a b) := by
  simp [List.getElem?_zipWith, h1, h2]

theorem TR.val_inv {w : World} {S : Nat → Prop} {v u : Value} (h : TR w S v (.val u)) : v = u := by cases h; rfl

/-- Parts are hung into a row. -/
theorem TR.graft {w : World} {S1 : Nat → Prop} {v : Value} {j0 : Nat} {es : List (List AV)} {kv : List Value} (hl : kv.length = es.length) (h1 : TR w S1 v (.sl (rowsK j0 es kv))) {S2 : Nat → Prop} (h2 : Forest w S2 (itemsK j0 es kv)) (hd : ∀ b, S1 b → S2 b → False) :
    TR w (fun b => S1 b ∨ S2 b) v (.sl es) := by
  obtain ⟨G, g1, g2, g3⟩ := h2
  have hlen : (rowsK j0 es kv).length = es.length := by simp [rowsK, hl]
  cases h1' : es with
  | nil =>
    subst h1'
    have e : rowsK j0 [] kv = [] := rfl
    rw [e] at h1
    cases h1 with
    | nil => exact .nil _ _ _
    | sl _ _ _ _ _ _ _ _ _ _ _ hn h0 => simp at hn; omega
  | cons e0 es0 =>
  rw [← h1']
  have hpos : 0 < es.length := by rw [h1']; simp
  generalize hr : rowsK j0 es kv = rows at h1 hlen
  cases h1 with
  | nil => simp at hlen; omega
  | sl S b o k n c rows cv cs e F hn h0 hc hk hb hrl hh hsz hcell hF hdis hread =>
    have hget : ∀ {i : Nat} {e : List AV}, es[i]? = some e → ∃ u, kv[i]? = some u ∧ rows[i]? = some (e.set j0 (.val u)) := fun {i e} he => by
      have hi := (List.getElem?_eq_some_iff.1 he).1
      obtain ⟨u, hu⟩ : ∃ u, kv[i]? = some u := ⟨_, List.getElem?_eq_getElem (by omega)⟩
      exact ⟨u, hu, by subst hr; exact zw_get he hu⟩
    have hel : ∀ (i : Nat) e, es[i]? = some e → e.length = k := fun i e he => by
      obtain ⟨u, _, h⟩ := hget he
      simpa using hrl i _ h
    refine .sl _ b o k n c es cv cs e (fun i j y => (j ≠ j0 ∧ F i j y) ∨ (j = j0 ∧ G i y)) (by omega) h0 hc hk (.inl hb) hel hh hsz (fun i j e x he hx => ?_) (fun i j y h => ?_) (fun i j i' j' y h h' => ?_) (fun i j e x he hx => ?_)
    · obtain ⟨u, _, h⟩ := hget he
      have hj : j < (e.set j0 (.val u)).length := by simpa using (List.getElem?_eq_some_iff.1 hx).1
      exact hcell i j _ _ h (List.getElem?_eq_getElem hj)
    · rcases h with ⟨_, h⟩ | ⟨_, h⟩
      · exact ⟨.inl (hF i j y h).1, (hF i j y h).2⟩
      · exact ⟨.inr (g1 i y h), fun e => hd b hb (e ▸ g1 i y h)⟩
    · rcases h with ⟨n1, h⟩ | ⟨e1, h⟩ <;> rcases h' with ⟨n2, h'⟩ | ⟨e2, h'⟩
      · exact hdis i j i' j' y h h'
      · exact (hd y (hF i j y h).1 (g1 i' y h')).elim
      · exact (hd y (hF i' j' y h').1 (g1 i y h)).elim
      · exact ⟨g2 i i' y h h', by omega⟩
    · obtain ⟨u, hu, h⟩ := hget he
      by_cases hj : j = j0
      · subst hj
        have hjl := (List.getElem?_eq_some_iff.1 hx).1
        have h3 := hread i j _ _ h (by rw [List.getElem?_set_self hjl])
        rw [h3.val_inv]
        refine (g3 i u x ?_).sub fun b hb => .inr ⟨rfl, hb⟩
        rw [itemsK, zw_get he hu, List.getD_eq_getElem?_getD, hx]; rfl
      · exact (hread i j _ x h (by rw [List.getElem?_set_ne (fun e => hj e.symm)]; exact hx)).sub fun b hb => .inl ⟨hj, hb⟩

/-- And taken off it. -/
theorem TR.ungraft {w : World} {S : Nat → Prop} {v : Value} {j0 : Nat} {es : List (List AV)} (h : TR w S v (.sl es)) (hj : ∀ (i j : Nat) e x, es[i]? = some e → e[j]? = some x → j ≠ j0 → ∃ u, x = .val u) (hj0 : ∀ (i : Nat) e, es[i]? = some e → j0 < e.length) :
    ∃ (kv : List Value) (S1 S2 : Nat → Prop), kv.length = es.length ∧ TR w S1 v (.sl (rowsK j0 es kv)) ∧ Forest w S2 (itemsK j0 es kv) ∧ (∀ b, S1 b → S2 b → False) ∧ (∀ b, S1 b → S b) ∧ ∀ b, S2 b → S b := by
  cases h with
  | nil => exact ⟨[], fun _ => False, fun _ => False, rfl, .nil _ _ _, ⟨fun _ _ => False, fun _ _ h => h, fun _ _ _ h => h.elim, fun m v x h => by simp [itemsK] at h⟩, fun _ h => h.elim, fun _ h => h.elim, fun _ h => h.elim⟩
  | sl S b o k n c es cv cs e F hn h0 hc hk hb hl hh hsz hcell hF hdis hread =>
    refine ⟨(List.range es.length).map fun i => cv i j0, fun y => y = b, fun y => S y ∧ y ≠ b, by simp, ?_, ?_, fun y h h' => h'.2 h, fun y h => h ▸ hb, fun y h => h.1⟩
    · have hget : ∀ {i : Nat} {r : List AV}, (rowsK j0 es ((List.range es.length).map fun i => cv i j0))[i]? = some r → ∃ e, es[i]? = some e ∧ r = e.set j0 (.val (cv i j0)) := fun {i r} h => by
        rw [rowsK, List.getElem?_zipWith] at h
        cases he : es[i]? with
        | none => simp [he] at h
        | some e =>
          have hi := (List.getElem?_eq_some_iff.1 he).1
          simp [he, List.getElem?_range hi] at h
          exact ⟨e, rfl, h.symm⟩
      refine .sl _ b o k n c _ cv cs e (fun _ _ _ => False) (by simp [rowsK, hn]) h0 hc hk rfl (fun i r hr => ?_) hh hsz (fun i j r x hr hx => ?_) (fun _ _ _ h => h.elim) (fun _ _ _ _ _ h => h.elim) (fun i j r x hr hx => ?_)
      · obtain ⟨e, he, rfl⟩ := hget hr
        simpa using hl i e he
      · obtain ⟨e, he, rfl⟩ := hget hr
        have hj : j < e.length := by simpa using (List.getElem?_eq_some_iff.1 hx).1
        exact hcell i j e _ he (List.getElem?_eq_getElem hj)
      · obtain ⟨e, he, rfl⟩ := hget hr
        by_cases hjj : j = j0
        · subst hjj
          rw [List.getElem?_set_self (hj0 i e he)] at hx
          cases hx
          exact .val _ _
        · rw [List.getElem?_set_ne (fun e => hjj e.symm)] at hx
          obtain ⟨u, rfl⟩ := hj i j e x he hx hjj
          have := (hread i j e _ he hx).val_inv
          rw [this]
          exact .val _ _
    · refine ⟨fun i y => F i j0 y, fun i y h => hF i j0 y h, fun i i' y h h' => (hdis i j0 i' j0 y h h').1, fun i u x h => ?_⟩
      rw [itemsK, List.getElem?_zipWith] at h
      cases he : es[i]? with
      | none => simp [he] at h
      | some e =>
        have hi := (List.getElem?_eq_some_iff.1 he).1
        simp [he, List.getElem?_range hi] at h
        obtain ⟨rfl, h⟩ := h
        refine hread i j0 e x he ?_
        rw [List.getElem?_eq_getElem (hj0 i e he)] at h ⊢
        simpa using h

theorem Forest.one {w : World} {S : Nat → Prop} {v : Value} {x : AV} : Forest w S [(v, x)] ↔ TR w S v x := by
  constructor
  · rintro ⟨F, h1, _, h3⟩
    exact (h3 0 v x rfl).sub (h1 0)
  · intro h
    refine ⟨fun m b => m = 0 ∧ S b, fun _ _ h => h.2, fun _ _ _ h h' => by omega, fun m u y hm => ?_⟩
    cases m with
    | zero => simp at hm; obtain ⟨rfl, rfl⟩ := hm; exact h.sub fun b hb => ⟨rfl, hb⟩
    | succ m => simp at hm

theorem Forest.sub {w : World} {S S' : Nat → Prop} {l : List (Value × AV)} (h : Forest w S l) (hs : ∀ b, S b → S' b) : Forest w S' l := by
  obtain ⟨F, h1, h2, h3⟩ := h
  exact ⟨F, fun m x h => hs x (h1 m x h), h2, h3⟩

theorem Forest.nil {w : World} {S : Nat → Prop} : Forest w S [] := ⟨fun _ _ => False, fun _ _ h => h.elim, fun _ _ _ h => h.elim, fun m v x h => by simp at h⟩

theorem Forest.append {w : World} {S1 S2 : Nat → Prop} {l1 l2 : List (Value × AV)} (h1 : Forest w S1 l1) (h2 : Forest w S2 l2) (hd : ∀ b, S1 b → S2 b → False) : Forest w (fun b => S1 b ∨ S2 b) (l1 ++ l2) := by
  obtain ⟨F, f1, f2, f3⟩ := h1
  obtain ⟨G, g1, g2, g3⟩ := h2
  refine ⟨fun m b => (m < l1.length ∧ F m b) ∨ (l1.length ≤ m ∧ G (m - l1.length) b), fun m x h => ?_, fun m m' x h h' => ?_, fun m v x h => ?_⟩
  · rcases h with ⟨_, h⟩ | ⟨_, h⟩
    · exact .inl (f1 _ _ h)
    · exact .inr (g1 _ _ h)
  · rcases h with ⟨n1, h⟩ | ⟨n1, h⟩ <;> rcases h' with ⟨n2, h'⟩ | ⟨n2, h'⟩
    · exact f2 _ _ _ h h'
    · exact (hd x (f1 _ _ h) (g1 _ _ h')).elim
    · exact (hd x (f1 _ _ h') (g1 _ _ h)).elim
    · have := g2 _ _ _ h h'; omega
  · by_cases hm : m < l1.length
    · rw [List.getElem?_append_left hm] at h
      exact (f3 m v x h).sub fun b hb => .inl ⟨hm, hb⟩
    · rw [List.getElem?_append_right (by omega)] at h
      exact (g3 _ v x h).sub fun b hb => .inr ⟨by omega, hb⟩

/-- One part is taken out. -/
theorem Forest.out {w : World} {S : Nat → Prop} {l : List (Value × AV)} (h : Forest w S l) {i : Nat} {v : Value} {x : AV} (hi : l[i]? = some (v, x)) :
    ∃ S1 S2, Forest w S1 (l.set i (v, .val v)) ∧ TR w S2 v x ∧ (∀ b, S1 b → S2 b → False) ∧ (∀ b, S1 b → S b) ∧ ∀ b, S2 b → S b := by
  obtain ⟨F, f1, f2, f3⟩ := h
  refine ⟨fun b => ∃ m, m ≠ i ∧ F m b, F i, ⟨fun m b => m ≠ i ∧ F m b, fun m b h => ⟨m, h⟩, fun m m' b h h' => f2 m m' b h.2 h'.2, fun m u y hm => ?_⟩, f3 i v x hi, fun b ⟨m, h, h1⟩ h2 => h (f2 _ _ _ h1 h2), fun b ⟨m, _, h⟩ => f1 m b h, f1 i⟩
  by_cases e : i = m
  · subst e
    rw [List.getElem?_set_self (List.getElem?_eq_some_iff.1 hi).1] at hm
    cases hm
    exact .val _ _
  · rw [List.getElem?_set_ne e] at hm
    exact (f3 m u y hm).sub fun b hb => ⟨fun e' => e e'.symm, hb⟩

/-- And put in again. -/
theorem Forest.put {w : World} {S1 S2 : Nat → Prop} {l : List (Value × AV)} (h : Forest w S1 l) {i : Nat} {v u : Value} {x : AV} (hi : l[i]? = some (v, .val u)) (h2 : TR w S2 v x) (hd : ∀ b, S1 b → S2 b → False) : Forest w (fun b => S1 b ∨ S2 b) (l.set i (v, x)) := by
  obtain ⟨F, f1, f2, f3⟩ := h
  refine ⟨fun m b => (m ≠ i ∧ F m b) ∨ (m = i ∧ S2 b), fun m b h => ?_, fun m m' b h h' => ?_, fun m u y hm => ?_⟩
  · rcases h with ⟨_, h⟩ | ⟨_, h⟩
    · exact .inl (f1 _ _ h)
    · exact .inr h
  · rcases h with ⟨n1, h⟩ | ⟨n1, h⟩ <;> rcases h' with ⟨n2, h'⟩ | ⟨n2, h'⟩
    · exact f2 _ _ _ h h'
    · exact (hd b (f1 _ _ h) h').elim
    · exact (hd b (f1 _ _ h') h).elim
    · omega
  · by_cases e : i = m
    · subst e
      rw [List.getElem?_set_self (List.getElem?_eq_some_iff.1 hi).1] at hm
      cases hm
      exact h2.sub fun b hb => .inr ⟨rfl, hb⟩
    · rw [List.getElem?_set_ne e] at hm
      exact (f3 m u y hm).sub fun b hb => .inl ⟨fun e' => e e'.symm, hb⟩

/-! ### States -/

/-- Parts with memory of their own are told anew; nothing else changes. -/
theorem HR.refor {w : World} {ρ : Env} {L L' : List OB} (h : HR w ρ L) (hl : L'.length = L.length) (hn : ∀ (r : Nat) o, L'[r]? = some o → L[r]? = some o ∨ (o = .dead ∧ ∃ S l, L[r]? = some (.forest S l)) ∨ ∃ S l, o = .forest S l)
    (hf : ∀ (r : Nat) S l, L'[r]? = some (.forest S l) → Forest w S l ∧ (∀ b, S b → ρ.T b) ∧ (L[r]? = some .dead ∨ ∃ S l, L[r]? = some (.forest S l)))
    (hd : ∀ (r r' : Nat) S S' l l' b, L'[r]? = some (.forest S l) → L'[r']? = some (.forest S' l') → S b → S' b → r = r') : HR w ρ L' where
  len := by rw [hl]; exact h.len
  xlt := h.xlt
  disj := h.disj
  inj := h.inj
  ent r o l h1 h2 := by
    rcases hn r o h1 with h3 | ⟨rfl, S, l', h3⟩ | ⟨S, l', rfl⟩
    · exact h.ent r o l h3 h2
    · exact (h.ent r _ l h3 h2).1
    · obtain ⟨g1, _, g3 | ⟨S2, l2, g3⟩⟩ := hf r S l' h1
      · exact ⟨h.ent r _ l g3 h2, g1⟩
      · exact ⟨(h.ent r _ l g3 h2).1, g1⟩
  t := ⟨h.t.lt, h.t.dl, fun r S l b h1 hb => (hf r S l h1).2.1 b hb, hd⟩

theorem Rel.refor {ρ : Env} {s : AS} {a : Act} {w : World} (h : Rel ρ s a w) {L' : List OB} (hh : HR w ρ L') : Rel ρ { s with L := L' } a w := ⟨h.dfr, h.size, h.tm, hh⟩

theorem HR.join {w : World} {ρ : Env} {L : List OB} (h : HR w ρ L) {r1 r2 : Nat} (hne : r1 ≠ r2) {S1 S2 S' : Nat → Prop} {l1 l2 l' : List (Value × AV)} (h1 : L[r1]? = some (.forest S1 l1)) (h2 : L[r2]? = some (.forest S2 l2))
    (hs : ∀ b, S' b → S1 b ∨ S2 b) (hf : Forest w S' l') : HR w ρ ((L.set r1 (.forest S' l')).set r2 .dead) := by
  have k1 := (List.getElem?_eq_some_iff.1 h1).1
  have k2 := (List.getElem?_eq_some_iff.1 h2).1
  have get : ∀ (r : Nat) o, ((L.set r1 (.forest S' l')).set r2 .dead)[r]? = some o → (r = r2 ∧ o = .dead) ∨ (r = r1 ∧ o = .forest S' l') ∨ (r ≠ r1 ∧ r ≠ r2 ∧ L[r]? = some o) := fun r o ho => by
    by_cases e2 : r2 = r
    · subst e2
      rw [List.getElem?_set_self (by simpa using k2)] at ho
      cases ho; exact .inl ⟨rfl, rfl⟩
    · rw [List.getElem?_set_ne e2] at ho
      by_cases e1 : r1 = r
      · subst e1
        rw [List.getElem?_set_self k1] at ho
        cases ho; exact .inr (.inl ⟨rfl, rfl⟩)
      · rw [List.getElem?_set_ne e1] at ho
        exact .inr (.inr ⟨fun e => e1 e.symm, fun e => e2 e.symm, ho⟩)
  refine h.refor (by simp) (fun r o ho => ?_) (fun r S l ho => ?_) (fun r r' S S'' l l'' b ho ho' hb hb' => ?_)
  · rcases get r o ho with ⟨rfl, rfl⟩ | ⟨rfl, rfl⟩ | ⟨_, _, h3⟩
    · exact .inr (.inl ⟨rfl, _, _, h2⟩)
    · exact .inr (.inr ⟨_, _, rfl⟩)
    · exact .inl h3
  · rcases get r _ ho with ⟨_, h3⟩ | ⟨rfl, h3⟩ | ⟨_, _, h3⟩
    · cases h3
    · cases h3
      refine ⟨hf, fun b hb => ?_, .inr ⟨_, _, h1⟩⟩
      rcases hs b hb with hb | hb
      · exact h.t.sub _ _ _ b h1 hb
      · exact h.t.sub _ _ _ b h2 hb
    · refine ⟨?_, fun b hb => h.t.sub _ _ _ b h3 hb, .inr ⟨_, _, h3⟩⟩
      have hlt : r < ρ.l.length := by rw [h.len]; exact (List.getElem?_eq_some_iff.1 h3).1
      exact (h.ent r _ _ h3 (List.getElem?_eq_getElem hlt)).2
  · have no : ∀ {q : Nat} {S : Nat → Prop} {l : List (Value × AV)}, q ≠ r1 → q ≠ r2 → L[q]? = some (.forest S l) → S b → S' b → False := fun {q S l} n1 n2 hq hb hb' => by
      rcases hs b hb' with h3 | h3
      · exact n1 (h.t.dis _ _ _ _ _ _ b hq h1 hb h3)
      · exact n2 (h.t.dis _ _ _ _ _ _ b hq h2 hb h3)
    rcases get r _ ho with ⟨_, h3⟩ | ⟨e1, h3⟩ | ⟨n1, n2, h3⟩
    · cases h3
    · cases h3
      rcases get r' _ ho' with ⟨_, h4⟩ | ⟨e2, h4⟩ | ⟨m1, m2, h4⟩
      · cases h4
      · rw [e1, e2]
      · exact (no m1 m2 h4 hb' hb).elim
    · rcases get r' _ ho' with ⟨_, h4⟩ | ⟨e2, h4⟩ | ⟨m1, m2, h4⟩
      · cases h4
      · cases h4; exact (no n1 n2 h3 hb hb').elim
      · exact h.t.dis _ _ _ _ _ _ b h3 h4 hb hb'

/-- A part told anew, within its own blocks, beside one that is new. -/
theorem HR.split {w : World} {ρ : Env} {L : List OB} (h : HR w ρ L) {r : Nat} {S S1 S2 : Nat → Prop} {l l1 l2 : List (Value × AV)} (h1 : L[r]? = some (.forest S l)) (s1 : ∀ b, S1 b → S b) (s2 : ∀ b, S2 b → S b) (hd : ∀ b, S1 b → S2 b → False)
    (f1 : Forest w S1 l1) (f2 : Forest w S2 l2) : HR w (ρ.push none) (L.set r (.forest S1 l1) ++ [.forest S2 l2]) := by
  have k1 := (List.getElem?_eq_some_iff.1 h1).1
  have hp : HR w (ρ.push none) (L ++ [.dead]) := by
    have hr : Rel ρ ⟨[], L⟩ { tmps := #[], defers := [] } w := ⟨rfl, rfl, fun i v x h => by simp at h, h⟩
    exact (hr.push Fr.refl none (fun b base hh => by cases hh) .dead rfl).hr
  have get : ∀ (q : Nat) o, (L.set r (.forest S1 l1) ++ [.forest S2 l2])[q]? = some o → (q = L.length ∧ o = .forest S2 l2) ∨ (q = r ∧ o = .forest S1 l1) ∨ (q ≠ r ∧ q < L.length ∧ L[q]? = some o) := fun q o ho => by
    by_cases hq : q < L.length
    · rw [List.getElem?_append_left (by simpa using hq)] at ho
      by_cases e : r = q
      · subst e
        rw [List.getElem?_set_self k1] at ho
        cases ho; exact .inr (.inl ⟨rfl, rfl⟩)
      · rw [List.getElem?_set_ne e] at ho
        exact .inr (.inr ⟨fun e' => e e'.symm, hq, ho⟩)
    · rw [List.getElem?_append_right (by simpa using Nat.le_of_not_lt hq)] at ho
      simp only [List.length_set] at ho
      cases hk : q - L.length with
      | zero => rw [hk] at ho; simp at ho; exact .inl ⟨by omega, ho.symm⟩
      | succ k => rw [hk] at ho; simp at ho
  have old : ∀ {q : Nat} {o : OB}, L[q]? = some o → (L ++ [OB.dead])[q]? = some o := fun {q o} ho => by
    rw [List.getElem?_append_left (List.getElem?_eq_some_iff.1 ho).1]; exact ho
  refine hp.refor (by simp) (fun q o ho => ?_) (fun q S' l' ho => ?_) (fun q q' S' S'' l' l'' b ho ho' hb hb' => ?_)
  · rcases get q o ho with ⟨rfl, rfl⟩ | ⟨rfl, rfl⟩ | ⟨_, _, h3⟩
    · exact .inr (.inr ⟨_, _, rfl⟩)
    · exact .inr (.inr ⟨_, _, rfl⟩)
    · exact .inl (old h3)
  · rcases get q _ ho with ⟨rfl, h3⟩ | ⟨rfl, h3⟩ | ⟨_, _, h3⟩
    · cases h3
      exact ⟨f2, fun b hb => h.t.sub _ _ _ b h1 (s2 b hb), .inl (by simp)⟩
    · cases h3
      exact ⟨f1, fun b hb => h.t.sub _ _ _ b h1 (s1 b hb), .inr ⟨_, _, old h1⟩⟩
    · refine ⟨?_, fun b hb => h.t.sub _ _ _ b h3 hb, .inr ⟨_, _, old h3⟩⟩
      have hlt : q < ρ.l.length := by rw [h.len]; exact (List.getElem?_eq_some_iff.1 h3).1
      exact (h.ent q _ _ h3 (List.getElem?_eq_getElem hlt)).2
  · have no : ∀ {q : Nat} {S' : Nat → Prop} {l : List (Value × AV)}, q ≠ r → L[q]? = some (.forest S' l) → S' b → S b → False := fun {q S' l} n1 hq hb hb' => n1 (h.t.dis _ _ _ _ _ _ b hq h1 hb hb')
    rcases get q _ ho with ⟨e1, h3⟩ | ⟨e1, h3⟩ | ⟨n1, m1, h3⟩ <;> rcases get q' _ ho' with ⟨e2, h4⟩ | ⟨e2, h4⟩ | ⟨n2, m2, h4⟩
    · omega
    · cases h3; cases h4; exact (hd b hb' hb).elim
    · cases h3; exact (no n2 h4 hb' (s2 b hb)).elim
    · cases h3; cases h4; exact (hd b hb hb').elim
    · omega
    · cases h3; exact (no n2 h4 hb' (s1 b hb)).elim
    · cases h4; exact (no n1 h3 hb (s2 b hb')).elim
    · cases h4; exact (no n1 h3 hb (s1 b hb')).elim
    · exact h.t.dis _ _ _ _ _ _ b h3 h4 hb hb'

def AV.exact : AV → Bool
  | .val _ => true
  | _ => false
theorem AV.exact_iff {x : AV} (h : x.exact = true) : ∃ u, x = .val u := by cases x <;> simp [AV.exact] at h; exact ⟨_, rfl⟩
def exactR (rows : List (List AV)) : Bool := rows.all fun e => e.all AV.exact
theorem exactR_get {rows : List (List AV)} (h : exactR rows = true) {i j : Nat} {e : List AV} {x : AV} (he : rows[i]? = some e) (hx : e[j]? = some x) : ∃ u, x = .val u :=
  AV.exact_iff (List.all_eq_true.1 (List.all_eq_true.1 h e (List.mem_of_getElem? he)) x (List.mem_of_getElem? hx))

/-- The blocks that lie at a name. -/
def Env.blk (ρ : Env) (r b : Nat) : Prop := ∃ base, ρ.l[r]? = some (some (b, base))

/-- An own row of exact values becomes a value with memory of its own. -/
theorem Rel.close {fx : List Nat} {ρ : Env} {s : AS} {a : Act} {w : World} (h : Rel ρ s a w) {r k : Nat} {rows : List (List AV)} (hL : s.L[r]? = some (.vec k rows)) (hall : exactR rows = true) (hfx : r ∉ fx) {v : Value} (hv : VR w ρ v (.os r k 0 rows.length)) :
    ∃ S ρ', Rel ρ' { s.kill r with L := (s.kill r).L.set r (.forest S [(v, .sl rows)]) } a w ∧ St fx ρ w ρ' w ∧ ρ'.l = ρ.l.set r none := by
  have hrl : r < s.L.length := (List.getElem?_eq_some_iff.1 hL).1
  have hrρ : r < ρ.l.length := by rw [h.hr.len]; exact hrl
  let ρ' : Env := { l := ρ.l.set r none, X := ρ.X, T := fun b => ρ.T b ∨ ρ.blk r b }
  have hget : ∀ {q b base : Nat}, ρ'.l[q]? = some (some (b, base)) → q ≠ r ∧ ρ.l[q]? = some (some (b, base)) := fun {q b base} hq => by
    simp only [ρ'] at hq
    by_cases e : r = q
    · subst e
      rw [List.getElem?_set_self hrρ] at hq; cases hq
    · rw [List.getElem?_set_ne e] at hq
      exact ⟨Ne.symm e, hq⟩
  have hown : ∀ b, own ρ' b → own ρ b := fun b hb => by
    rcases hb with ⟨q, base, hq⟩ | hb | ⟨base, hb⟩
    · exact .l (hget hq).2
    · exact .inr hb
    · exact .l hb
  have hno : ∀ b, no ρ' b → no ρ b := fun b hb => hb.elim (fun hb => .inl (hown b hb)) .inr
  have hkeep : ∀ (q : Nat) l, (q != r) = true → ρ.l[q]? = some l → ρ'.l[q]? = some l := fun q l hq hl => by
    simp only [ρ']
    rw [List.getElem?_set_ne (fun e => by subst e; simp at hq)]; exact hl
  have keep : ∀ v x, VR w ρ v x → VR w ρ' v (x.filt fun r' => r' != r) := fun v x hv => hv.mono .refl (fun b _ => hno b) _ hkeep
  have keepP : ∀ v x, PR w (no ρ) v x → PR w (no ρ') v x := fun v x hv => hv.mono (fun _ _ _ => rfl) (Nat.le_refl _) (fun b _ => hno b)
  have hT : TR w (ρ.blk r) v (.sl rows) := by
    generalize hn : rows.length = n at hv
    have nil : ∀ a c, n = 0 → TR w (ρ.blk r) (.slice a 0 c) (.sl rows) := fun a c h0 => by
      subst h0
      rw [List.length_eq_zero_iff.1 hn]
      exact .nil _ _ _
    cases hv with
    | pr hp => cases hp
    | osnil => exact nil _ _ rfl
    | osz => exact nil _ _ rfl
    | os r k off n c b base cs e fz hr hc hb hsz =>
      by_cases h0 : n = 0
      · subst h0; exact nil _ _ rfl
      · obtain ⟨hk, hl, hd | ⟨b', base', c', ty, g1, g2, g3, g4⟩⟩ := h.hr.ent r _ _ hL hr
        · cases hd.1
        · cases g1
          rw [hb] at g2; cases g2
          simp only [Nat.zero_mul, Nat.add_zero, Nat.zero_add] at *
          refine .sl _ b base k n c rows (fun i j => (cs[base + i * k + j]?).getD undef) cs e (fun _ _ _ => False) hn (by omega) hc hk ⟨base, hr⟩ hl hb hsz (fun i j e' x he hx => ?_) (fun _ _ _ h => h.elim) (fun _ _ _ _ _ h => h.elim) (fun i j e' x he hx => ?_)
          · obtain ⟨u, h1, _⟩ := g4 i j e' x he hx
            rw [h1]; rfl
          · obtain ⟨u, h1, h2⟩ := g4 i j e' x he hx
            obtain ⟨u', rfl⟩ := exactR_get hall he hx
            rw [h1]
            cases h2
            exact .val _ _
  have hfo : ∀ {q : Nat} {S : Nat → Prop} {l : List (Value × AV)}, q ≠ r → ((s.kill r).L.set r (.forest (ρ.blk r) [(v, .sl rows)]))[q]? = some (.forest S l) → s.L[q]? = some (.forest S l) := fun {q S l} e hh => by
    rw [List.getElem?_set_ne (fun e' => e e'.symm)] at hh
    simp only [AS.kill, List.getElem?_map] at hh
    cases hq : s.L[q]? with
    | none => simp [hq] at hh
    | some o0 =>
      cases o0 <;> simp [hq, OB.kill] at hh
      rw [hh.1, hh.2]
  have hself : ∀ {S : Nat → Prop} {l : List (Value × AV)}, ((s.kill r).L.set r (.forest (ρ.blk r) [(v, .sl rows)]))[r]? = some (.forest S l) → S = ρ.blk r := fun {S l} hh => by
    rw [List.getElem?_set_self (by simpa [AS.kill] using hrl)] at hh
    cases hh; rfl
  refine ⟨ρ.blk r, ρ', ⟨h.dfr, by simp [AS.kill, h.size], fun i u x h1 h2 => ?_, ⟨by simp [ρ', AS.kill, h.hr.len], h.hr.xlt, fun b hb => h.hr.disj b (hown b hb), fun q q' b base base' h1 h2 => h.hr.inj _ _ _ _ _ (hget h1).2 (hget h2).2, fun q o l h1 h2 => ?_,
    ⟨fun b hb => own_lt h.hr (hb.elim .inr fun ⟨base, hb⟩ => .l hb), fun b q base hb h1 => ?_, fun q S l b h1 hb => ?_, fun q q' S S' l l' b h1 h2 hb hb' => ?_⟩⟩⟩, ⟨.refl, fun b _ hb => hown b hb, fun q hq x hx => ?_, rfl⟩, rfl⟩
  · simp only [AS.kill, List.getElem?_map] at h2
    cases hq : s.tm[i]? with
    | none => simp [hq] at h2
    | some y => simp [hq] at h2; subst h2; exact keep _ _ (h.tm i u y h1 hq)
  · by_cases e : r = q
    · subst e
      rw [List.getElem?_set_self (by simpa [AS.kill] using hrl)] at h1
      cases h1
      simp only [ρ'] at h2
      rw [List.getElem?_set_self hrρ] at h2
      cases h2
      exact ⟨rfl, Forest.one.2 hT⟩
    · rw [List.getElem?_set_ne e] at h1
      simp only [AS.kill, List.getElem?_map] at h1
      simp only [ρ'] at h2
      rw [List.getElem?_set_ne e] at h2
      cases hq : s.L[q]? with
      | none => simp [hq] at h1
      | some o0 =>
        simp [hq] at h1
        have hent := h.hr.ent q o0 l hq h2
        cases o0 with
        | dead => simp [OB.kill] at h1; subst h1; exact hent
        | cells cs =>
          simp [OB.kill] at h1; subst h1
          obtain ⟨b, c, ty, g1, g2, g3, g4⟩ := hent
          refine ⟨b, c, ty, g1, g2, by simpa using g3, fun i v x h5 h6 => ?_⟩
          rw [List.getElem?_map] at h6
          cases hx : cs[i]? with
          | none => simp [hx] at h6
          | some y => simp [hx] at h6; subst h6; exact keep _ _ (g4 i v y h5 hx)
        | vec k es =>
          simp [OB.kill] at h1; subst h1
          obtain ⟨h0, hl, hd⟩ := hent
          refine ⟨h0, hl, ?_⟩
          rcases hd with hd | ⟨b, base', c, ty, g1, g2, g3, g4⟩
          · exact .inl hd
          · exact .inr ⟨b, base', c, ty, g1, g2, g3, fun i j ei x h5 h6 => let ⟨v, h7, h8⟩ := g4 i j ei x h5 h6; ⟨v, h7, keepP _ _ h8⟩⟩
        | forest S l => simp [OB.kill] at h1; subst h1; exact hent
  · obtain ⟨n, h1⟩ := hget h1
    rcases hb with hb | ⟨base', hb⟩
    · exact h.hr.t.dl b q base hb h1
    · exact n (h.hr.inj _ _ _ _ _ h1 hb)
  · by_cases e : q = r
    · subst e
      exact .inr (hself h1 ▸ hb)
    · exact .inl (h.hr.t.sub _ _ _ b (hfo e h1) hb)
  · have no2 : ∀ {q : Nat} {S : Nat → Prop} {l : List (Value × AV)}, q ≠ r → ((s.kill r).L.set r (.forest (ρ.blk r) [(v, .sl rows)]))[q]? = some (.forest S l) → S b → ρ.blk r b → False := fun {q S l} e hq hb ⟨base, hb'⟩ =>
      h.hr.t.dl b r base (h.hr.t.sub _ _ _ b (hfo e hq) hb) hb'
    by_cases e : q = r <;> by_cases e' : q' = r
    · rw [e, e']
    · subst e; exact (no2 e' h2 hb' (hself h1 ▸ hb)).elim
    · subst e'; exact (no2 e h1 hb (hself h2 ▸ hb')).elim
    · exact h.hr.t.dis _ _ _ _ _ _ b (hfo e h1) (hfo e' h2) hb hb'
  · simp only [ρ']
    rw [List.getElem?_set_ne (show r ≠ q from fun e => hfx (by rw [e]; exact hq))]
    exact hx

/-- An own row that is handed back, as a value with memory of its own. -/
theorem fin_close {nb : Nat} {R : AV → List OB → Prop} {s : AS} {r k n : Nat} {rows : List (List AV)} (hL : s.L[r]? = some (.vec k rows)) (hall : exactR rows = true) (hfx : r ∉ fx) (hn : n = rows.length)
    (h : ∀ S v, v.oneCell' = true → Fin fx nb R { s.kill r with L := (s.kill r).L.set r (.forest S [(v, .sl rows)]) } (.val v)) : Fin fx nb R s (.os r k 0 n) := by
  subst hn
  refine fun ρ a w v hr hv => ?_
  obtain ⟨S, ρ1, h1, g1, _⟩ := hr.close hL hall hfx hv
  obtain ⟨x', L', hR, ρ2, h2, h3, g2⟩ := h S v (one_sound hv rfl) ρ1 a w v h1 (.pr (.val _))
  exact ⟨x', L', hR, ρ2, h2, h3, g1.trans g2⟩

/-- Parts are hung into what is handed back. -/
theorem fin_graft {nb : Nat} {R : AV → List OB → Prop} {s : AS} {x : AV} {r r2 j0 : Nat} {S1 S2 : Nat → Prop} {v : Value} {es : List (List AV)} {kv : List Value} (hne : r ≠ r2) (h1 : s.L[r]? = some (.forest S1 [(v, .sl (rowsK j0 es kv))])) (h2 : s.L[r2]? = some (.forest S2 (itemsK j0 es kv))) (hl : kv.length = es.length)
    (h : ∀ S, Fin fx nb R { s with L := (s.L.set r (.forest S [(v, .sl es)])).set r2 .dead } x) : Fin fx nb R s x := fun ρ a w u hr hu => by
  have hlt : ∀ {q : Nat} {o : OB}, s.L[q]? = some o → q < ρ.l.length := fun {q o} ho => by rw [hr.hr.len]; exact (List.getElem?_eq_some_iff.1 ho).1
  have f1 := (hr.hr.ent r _ _ h1 (List.getElem?_eq_getElem (hlt h1))).2
  have f2 := (hr.hr.ent r2 _ _ h2 (List.getElem?_eq_getElem (hlt h2))).2
  have hd : ∀ b, S1 b → S2 b → False := fun b hb hb' => hne (hr.hr.t.dis _ _ _ _ _ _ b h1 h2 hb hb')
  exact h (fun b => S1 b ∨ S2 b) ρ a w u (hr.refor (hr.hr.join hne h1 h2 (fun _ h => h) (Forest.one.2 (TR.graft hl (Forest.one.1 f1) f2 hd)))) hu

end
end Go.Pc
