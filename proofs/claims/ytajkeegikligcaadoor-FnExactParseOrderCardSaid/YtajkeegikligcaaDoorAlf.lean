/- The abstract logic, last part: values with all their memory in blocks of its own: made, joined, taken apart, read, written, made immutable. -/
import Derived.Test.YtajkeegikligcaaDoorAls
set_option linter.unusedSimpArgs false
set_option linter.unusedVariables false
namespace Go.Pc
open Go

section
variable {P : Program} {T : TypeId → Ty} {fx bl : List Nat}

theorem TR.val_inv {w : World} {S : Nat → Prop} {v u : Value} (h : TR w S v (.val u)) : v = u := by cases h; rfl

theorem Forest.one {w : World} {S : Nat → Prop} {v : Value} {x : AV} : Forest w S [(v, x)] ↔ TR w S v x := by
  constructor
  · rintro ⟨F, h1, _, h3⟩
    exact (h3 0 v x rfl).sub (h1 0)
  · intro h
    refine ⟨fun m b => m = 0 ∧ S b, fun _ _ h => h.2, fun _ _ _ h h' => by omega, fun m u y hm => ?_⟩
    cases m with
    | zero => simp at hm; obtain ⟨rfl, rfl⟩ := hm; exact h.sub fun b hb => ⟨rfl, hb⟩
    | succ m => simp at hm

theorem Forest.sub {w : World} {S S' : Nat → Prop} {l : List (Value × AV)} (h : Forest w S l) (hs : ∀ b, S b → S' b) : Forest w S' l := by
  obtain ⟨F, h1, h2, h3⟩ := h
  exact ⟨F, fun m x h => hs x (h1 m x h), h2, h3⟩

theorem Forest.nil {w : World} {S : Nat → Prop} : Forest w S [] := ⟨fun _ _ => False, fun _ _ h => h.elim, fun _ _ _ h => h.elim, fun m v x h => by simp at h⟩

theorem Forest.append {w : World} {S1 S2 : Nat → Prop} {l1 l2 : List (Value × AV)} (h1 : Forest w S1 l1) (h2 : Forest w S2 l2) (hd : ∀ b, S1 b → S2 b → False) : Forest w (fun b => S1 b ∨ S2 b) (l1 ++ l2) := by
  obtain ⟨F, f1, f2, f3⟩ := h1
  obtain ⟨G, g1, g2, g3⟩ := h2
  refine ⟨fun m b => (m < l1.length ∧ F m b) ∨ (l1.length ≤ m ∧ G (m - l1.length) b), fun m x h => ?_, fun m m' x h h' => ?_, fun m v x h => ?_⟩
  · rcases h with ⟨_, h⟩ | ⟨_, h⟩
    · exact .inl (f1 _ _ h)
    · exact .inr (g1 _ _ h)
  · rcases h with ⟨n1, h⟩ | ⟨n1, h⟩ <;> rcases h' with ⟨n2, h'⟩ | ⟨n2, h'⟩
    · exact f2 _ _ _ h h'
    · exact (hd x (f1 _ _ h) (g1 _ _ h')).elim
    · exact (hd x (f1 _ _ h') (g1 _ _ h)).elim
    · have := g2 _ _ _ h h'; omega
  · by_cases hm : m < l1.length
    · rw [List.getElem?_append_left hm] at h
      exact (f3 m v x h).sub fun b hb => .inl ⟨hm, hb⟩
    · rw [List.getElem?_append_right (by omega)] at h
      exact (g3 _ v x h).sub fun b hb => .inr ⟨by omega, hb⟩

/-- One part is taken out. -/
theorem Forest.out {w : World} {S : Nat → Prop} {l : List (Value × AV)} (h : Forest w S l) {i : Nat} {v : Value} {x : AV} (hi : l[i]? = some (v, x)) :
    ∃ S1 S2, Forest w S1 (l.set i (v, .val v)) ∧ TR w S2 v x ∧ (∀ b, S1 b → S2 b → False) ∧ (∀ b, S1 b → S b) ∧ ∀ b, S2 b → S b := by
  obtain ⟨F, f1, f2, f3⟩ := h
  refine ⟨fun b => ∃ m, m ≠ i ∧ F m b, F i, ⟨fun m b => m ≠ i ∧ F m b, fun m b h => ⟨m, h⟩, fun m m' b h h' => f2 m m' b h.2 h'.2, fun m u y hm => ?_⟩, f3 i v x hi, fun b ⟨m, h, h1⟩ h2 => h (f2 _ _ _ h1 h2), fun b ⟨m, _, h⟩ => f1 m b h, f1 i⟩
  by_cases e : i = m
  · subst e
    rw [List.getElem?_set_self (List.getElem?_eq_some_iff.1 hi).1] at hm
    cases hm
    exact .val _ _
  · rw [List.getElem?_set_ne e] at hm
    exact (f3 m u y hm).sub fun b hb => ⟨fun e' => e e'.symm, hb⟩

/-- And put in again. -/
theorem Forest.put {w : World} {S1 S2 : Nat → Prop} {l : List (Value × AV)} (h : Forest w S1 l) {i : Nat} {v u : Value} {x : AV} (hi : l[i]? = some (v, .val u)) (h2 : TR w S2 v x) (hd : ∀ b, S1 b → S2 b → False) : Forest w (fun b => S1 b ∨ S2 b) (l.set i (v, x)) := by
  obtain ⟨F, f1, f2, f3⟩ := h
  refine ⟨fun m b => (m ≠ i ∧ F m b) ∨ (m = i ∧ S2 b), fun m b h => ?_, fun m m' b h h' => ?_, fun m u y hm => ?_⟩
  · rcases h with ⟨_, h⟩ | ⟨_, h⟩
    · exact .inl (f1 _ _ h)
    · exact .inr h
  · rcases h with ⟨n1, h⟩ | ⟨n1, h⟩ <;> rcases h' with ⟨n2, h'⟩ | ⟨n2, h'⟩
    · exact f2 _ _ _ h h'
    · exact (hd b (f1 _ _ h) h').elim
    · exact (hd b (f1 _ _ h') h).elim
    · omega
  · by_cases e : i = m
    · subst e
      rw [List.getElem?_set_self (List.getElem?_eq_some_iff.1 hi).1] at hm
      cases hm
      exact h2.sub fun b hb => .inr ⟨rfl, hb⟩
    · rw [List.getElem?_set_ne e] at hm
      exact (f3 m u y hm).sub fun b hb => .inl ⟨fun e' => e e'.symm, hb⟩

/-! ### States -/

/-- Parts with memory of their own are told anew; nothing else changes. -/
theorem HR.refor {w : World} {ρ : Env} {L L' : List OB} (h : HR w ρ L) (hl : L'.length = L.length) (hn : ∀ (r : Nat) o, L'[r]? = some o → L[r]? = some o ∨ (o = .dead ∧ ∃ S l, L[r]? = some (.forest S l)) ∨ ∃ S l, o = .forest S l)
    (hf : ∀ (r : Nat) S l, L'[r]? = some (.forest S l) → Forest w S l ∧ (∀ b, S b → ρ.T b) ∧ (L[r]? = some .dead ∨ ∃ S l, L[r]? = some (.forest S l)))
    (hd : ∀ (r r' : Nat) S S' l l' b, L'[r]? = some (.forest S l) → L'[r']? = some (.forest S' l') → S b → S' b → r = r') : HR w ρ L' where
  len := by rw [hl]; exact h.len
  xlt := h.xlt
  disj := h.disj
  inj := h.inj
  ent r o l h1 h2 := by
    rcases hn r o h1 with h3 | ⟨rfl, S, l', h3⟩ | ⟨S, l', rfl⟩
    · exact h.ent r o l h3 h2
    · exact (h.ent r _ l h3 h2).1
    · obtain ⟨g1, _, g3 | ⟨S2, l2, g3⟩⟩ := hf r S l' h1
      · exact ⟨h.ent r _ l g3 h2, g1⟩
      · exact ⟨(h.ent r _ l g3 h2).1, g1⟩
  t := ⟨h.t.lt, h.t.dl, fun r S l b h1 hb => (hf r S l h1).2.1 b hb, hd⟩

theorem Rel.refor {ρ : Env} {s : AS} {a : Act} {w : World} (h : Rel ρ s a w) {L' : List OB} (hh : HR w ρ L') : Rel ρ { s with L := L' } a w := ⟨h.dfr, h.size, h.tm, hh⟩

/-- A part told anew, within its own blocks, beside one that is new. -/
theorem HR.split {w : World} {ρ : Env} {L : List OB} (h : HR w ρ L) {r : Nat} {S S1 S2 : Nat → Prop} {l l1 l2 : List (Value × AV)} (h1 : L[r]? = some (.forest S l)) (s1 : ∀ b, S1 b → S b) (s2 : ∀ b, S2 b → S b) (hd : ∀ b, S1 b → S2 b → False)
    (f1 : Forest w S1 l1) (f2 : Forest w S2 l2) : HR w (ρ.push none) (L.set r (.forest S1 l1) ++ [.forest S2 l2]) := by
  have k1 := (List.getElem?_eq_some_iff.1 h1).1
  have hp : HR w (ρ.push none) (L ++ [.dead]) := by
    have hr : Rel ρ ⟨[], L⟩ { tmps := #[], defers := [] } w := ⟨rfl, rfl, fun i v x h => by simp at h, h⟩
    exact (hr.push Fr.refl none (fun b base hh => by cases hh) .dead rfl).hr
  have get : ∀ (q : Nat) o, (L.set r (.forest S1 l1) ++ [.forest S2 l2])[q]? = some o → (q = L.length ∧ o = .forest S2 l2) ∨ (q = r ∧ o = .forest S1 l1) ∨ (q ≠ r ∧ q < L.length ∧ L[q]? = some o) := fun q o ho => by
    by_cases hq : q < L.length
    · rw [List.getElem?_append_left (by simpa using hq)] at ho
      by_cases e : r = q
      · subst e
        rw [List.getElem?_set_self k1] at ho
        cases ho; exact .inr (.inl ⟨rfl, rfl⟩)
      · rw [List.getElem?_set_ne e] at ho
        exact .inr (.inr ⟨fun e' => e e'.symm, hq, ho⟩)
    · rw [List.getElem?_append_right (by simpa using Nat.le_of_not_lt hq)] at ho
      simp only [List.length_set] at ho
      cases hk : q - L.length with
      | zero => rw [hk] at ho; simp at ho; exact .inl ⟨by omega, ho.symm⟩
      | succ k => rw [hk] at ho; simp at ho
  have old : ∀ {q : Nat} {o : OB}, L[q]? = some o → (L ++ [OB.dead])[q]? = some o := fun {q o} ho => by
    rw [List.getElem?_append_left (List.getElem?_eq_some_iff.1 ho).1]; exact ho
  refine hp.refor (by simp) (fun q o ho => ?_) (fun q S' l' ho => ?_) (fun q q' S' S'' l' l'' b ho ho' hb hb' => ?_)
  · rcases get q o ho with ⟨rfl, rfl⟩ | ⟨rfl, rfl⟩ | ⟨_, _, h3⟩
    · exact .inr (.inr ⟨_, _, rfl⟩)
    · exact .inr (.inr ⟨_, _, rfl⟩)
    · exact .inl (old h3)
  · rcases get q _ ho with ⟨rfl, h3⟩ | ⟨rfl, h3⟩ | ⟨_, _, h3⟩
    · cases h3
      exact ⟨f2, fun b hb => h.t.sub _ _ _ b h1 (s2 b hb), .inl (by simp)⟩
    · cases h3
      exact ⟨f1, fun b hb => h.t.sub _ _ _ b h1 (s1 b hb), .inr ⟨_, _, old h1⟩⟩
    · refine ⟨?_, fun b hb => h.t.sub _ _ _ b h3 hb, .inr ⟨_, _, old h3⟩⟩
      have hlt : q < ρ.l.length := by rw [h.len]; exact (List.getElem?_eq_some_iff.1 h3).1
      exact (h.ent q _ _ h3 (List.getElem?_eq_getElem hlt)).2
  · have no : ∀ {q : Nat} {S' : Nat → Prop} {l : List (Value × AV)}, q ≠ r → L[q]? = some (.forest S' l) → S' b → S b → False := fun {q S' l} n1 hq hb hb' => n1 (h.t.dis _ _ _ _ _ _ b hq h1 hb hb')
    rcases get q _ ho with ⟨e1, h3⟩ | ⟨e1, h3⟩ | ⟨n1, m1, h3⟩ <;> rcases get q' _ ho' with ⟨e2, h4⟩ | ⟨e2, h4⟩ | ⟨n2, m2, h4⟩
    · omega
    · cases h3; cases h4; exact (hd b hb' hb).elim
    · cases h3; exact (no n2 h4 hb' (s2 b hb)).elim
    · cases h3; cases h4; exact (hd b hb hb').elim
    · omega
    · cases h3; exact (no n2 h4 hb' (s1 b hb)).elim
    · cases h4; exact (no n1 h3 hb (s2 b hb')).elim
    · cases h4; exact (no n1 h3 hb (s1 b hb')).elim
    · exact h.t.dis _ _ _ _ _ _ b h3 h4 hb hb'

def AV.exact : AV → Bool
  | .val _ => true
  | _ => false
theorem AV.exact_iff {x : AV} (h : x.exact = true) : ∃ u, x = .val u := by cases x <;> simp [AV.exact] at h; exact ⟨_, rfl⟩
def exactR (rows : List (List AV)) : Bool := rows.all fun e => e.all AV.exact
theorem exactR_get {rows : List (List AV)} (h : exactR rows = true) {i j : Nat} {e : List AV} {x : AV} (he : rows[i]? = some e) (hx : e[j]? = some x) : ∃ u, x = .val u :=
  AV.exact_iff (List.all_eq_true.1 (List.all_eq_true.1 h e (List.mem_of_getElem? he)) x (List.mem_of_getElem? hx))

end

end Go.Pc

/- The abstract logic: calls that read, write or make values with memory of their own. -/
namespace Go.Pc
open Go

section
variable {P : Program} {T : TypeId → Ty} {fx bl : List Nat}

/-- A contract about one value with memory of its own, where it is one of several. -/
theorem ACalls.item {f : FuncId} {args : List AV} {v : Value} {x x' : AV} {u : Value} (h : ∀ S, ACalls P f args [.forest S [(v, x)]] [0] (fun r L => r = .val u ∧ ∃ S', L = [.forest S' [(v, x')]])) (hfree : freeL args = true) {S : Nat → Prop} {items : List (Value × AV)} {i : Nat} (hi : items[i]? = some (v, x)) :
    ACalls P f args [.forest S items] [0] (fun r L => r = .val u ∧ ∃ S', L = [.forest S' (items.set i (v, x'))]) := by
  refine ⟨(h (fun _ => False)).1, fun ρ w vs hr hvl hv => ?_⟩
  have hl1 : ρ.l.length = 1 := by rw [hr.len]; rfl
  have hρ0 : ρ.l[0]? = some none := by
    have h0 := List.getElem?_eq_getElem (l := ρ.l) (i := 0) (by omega)
    rw [h0, (hr.ent 0 _ _ rfl h0).1]
  have f0 := (hr.ent 0 _ _ rfl hρ0).2
  obtain ⟨S1, S2, o1, o2, o3, o4, o5⟩ := f0.out hi
  have hT : ∀ b, S b → ρ.T b := fun b hb => hr.t.sub 0 _ _ b rfl hb
  have hle : ρ.l = [none] := by
    match hm : ρ.l, hl1 with
    | [y], _ => rw [hm] at hρ0; simp at hρ0; rw [hρ0]
  have nol : ∀ b, ¬ ownl ρ b := fun b ⟨q, base, hq⟩ => by
    rw [hle] at hq
    cases q <;> simp at hq
  let ρ1 : Env := { l := [none], X := fun b => no ρ b ∧ ¬ S2 b, T := S2 }
  have own1 : ∀ b, own ρ1 b ↔ S2 b := fun b => ⟨fun hb => hb.elim (fun ⟨q, base, hq⟩ => by cases q <;> simp [ρ1] at hq) id, .inr⟩
  have hno1 : ∀ b, no ρ1 b → no ρ b := fun b hb => hb.elim (fun h => .inl (.inr (hT b (o5 b ((own1 b).1 h))))) (fun h => h.1)
  have hr1 : HR w ρ1 [.forest S2 [(v, x)]] := by
    refine ⟨rfl, fun b hb => hb.1.elim (own_lt hr) (hr.xlt b), fun b hb hx => hx.2 ((own1 b).1 hb), fun q q' b base base' h1 => by cases q <;> simp [ρ1] at h1, fun q o l h1 h2 => ?_, ⟨fun b hb => hr.t.lt b (hT b (o5 b hb)), fun b q base _ h1 => by cases q <;> simp [ρ1] at h1, fun q S' l b h1 hb => ?_, fun q q' S' S'' l l' b h1 h2 _ _ => ?_⟩⟩
    · cases q with
      | zero => simp [ρ1] at h1 h2; subst h1; subst h2; exact ⟨rfl, Forest.one.2 o2⟩
      | succ q => simp at h1
    · cases q with
      | zero => simp at h1; obtain ⟨rfl, _⟩ := h1; exact hb
      | succ q => simp at h1
    · cases q <;> simp at h1
      cases q' <;> simp at h2
      rfl
  refine ((h S2).2 ρ1 w vs hr1 hvl fun j u x hj hx => ?_).mono fun e w' ⟨u', res, L', ρ', he, ⟨hres, S', hL'⟩, _, hvr, hhr, hst⟩ => ?_
  · have hxf := freeL_mem hfree (List.mem_of_getElem? hx)
    have := (hv j u x hj hx).mono (w' := w) (ρ' := ρ1) .refl (fun b _ hb => hno1 b hb) (fun _ => false) (fun r l hp => by cases hp)
    rwa [AV.free_filt hxf] at this
  · subst hres; subst hL'
    have hl' : ρ'.l = [none] := by
      have h0 := hst.fix 0 (by simp) none rfl
      match hm : ρ'.l, hhr.len with
      | [y], _ => rw [hm] at h0; simp at h0; rw [h0]
    have nol' : ∀ b, ¬ ownl ρ' b := fun b ⟨q, base, hq⟩ => by
      rw [hl'] at hq
      cases q <;> simp at hq
    have hX : ∀ b, ρ'.X b ↔ no ρ b ∧ ¬ S2 b := fun b => by rw [hst.x]
    let ρn : Env := { l := [none], X := ρ.X, T := fun b => (ρ.T b ∧ ¬ S2 b) ∨ ρ'.T b }
    have nown : ∀ b, own ρn b → (ρ.T b ∧ ¬ S2 b) ∨ ρ'.T b := fun b hb => hb.elim (fun ⟨q, base, hq⟩ => by cases q <;> simp [ρn] at hq) id
    have oldT : ∀ b, b < w.heap.size → ρ'.T b → S2 b := fun b hlt hb => (own1 b).1 (hst.sub b hlt (.inr hb))
    have hfr : Fr (own ρ) w w' := ⟨hst.fr.le, fun b hb hno => hst.fr.same b hb fun h => hno (.inr (hT b (o5 b ((own1 b).1 h)))), hst.fr.size, hst.fr.os, hst.fr.out, hst.fr.tape⟩
    have hsame : ∀ b, b < w.heap.size → ¬ S2 b → w'.heap[b]? = w.heap[b]? := fun b hb hn => hst.fr.same b hb fun h => hn ((own1 b).1 h)
    have f1 := hhr.ent 0 _ none rfl (by rw [hl']; rfl)
    have t1 := Forest.one.1 f1.2
    have g1 : Forest w' S1 (items.set i (v, .val v)) := o1.keep fun b hb hlt => hsame b hlt fun h => o3 b hb h
    have hd1 : ∀ b, S1 b → S' b → False := fun b h1 h2 => o3 b h1 (oldT b (hr.t.lt b (hT b (o4 b h1))) (hhr.t.sub 0 _ _ b rfl h2))
    have hlen : i < items.length := (List.getElem?_eq_some_iff.1 hi).1
    have g2 := g1.put (i := i) (v := v) (u := v) (List.getElem?_set_self hlen) t1 hd1
    rw [List.set_set] at g2
    refine ⟨u', _, _, ρn, he, ⟨rfl, fun b => S1 b ∨ S' b, rfl⟩, Nat.le_refl _, by have := val_inv hvr; subst this; exact .pr (.val _), ⟨rfl, fun b hb => Nat.lt_of_lt_of_le (hr.xlt b hb) hfr.le, fun b hb hx => ?_, fun q q' b base base' h1 => by cases q <;> simp [ρn] at h1, fun q o l h1 h2 => ?_, ⟨fun b hb => ?_, fun b q base _ h1 => by cases q <;> simp [ρn] at h1, fun q S'' l b h1 hb => ?_, fun q q' S' S'' l l' b h1 h2 _ _ => ?_⟩⟩,
      ⟨hfr, fun b hlt hb => ?_, fun q hq y hy => ?_, rfl⟩⟩
    · rcases nown b hb with ⟨h1, _⟩ | h1
      · exact hr.disj b (.inr h1) hx
      · exact hhr.disj b (.inr h1) ((hX b).2 ⟨.inr hx, fun h2 => hr.disj b (.inr (hT b (o5 b h2))) hx⟩)
    · cases q with
      | zero => simp [ρn] at h1 h2; subst h1; subst h2; exact ⟨rfl, g2⟩
      | succ q => simp at h1
    · rcases hb with ⟨h1, _⟩ | h1
      · exact Nat.lt_of_lt_of_le (hr.t.lt b h1) hfr.le
      · exact hhr.t.lt b h1
    · cases q with
      | succ q => simp at h1
      | zero =>
        simp at h1; obtain ⟨rfl, _⟩ := h1
        rcases hb with hb | hb
        · exact .inl ⟨hT b (o4 b hb), fun h => o3 b hb h⟩
        · exact .inr (hhr.t.sub 0 _ _ b rfl hb)
    · cases q <;> simp at h1
      cases q' <;> simp at h2
      rfl
    · rcases nown b hb with ⟨h1, _⟩ | h1
      · exact .inr h1
      · exact .inr (hT b (o5 b (oldT b hlt h1)))
    · simp at hq; subst hq
      rw [hρ0] at hy; cases hy; rfl

/-! ### Calls that read what is own -/

mutual
/-- What a call may hand back where it was handed own memory to read: nothing that lies in memory that is not own. -/
def AV.dry : AV → Bool
  | .any | .val _ | .ptr _ _ | .vp _ _ _ _ | .os _ _ _ _ => true
  | .agg l => dryL l
  | .tup l => dryL l
  | .sl _ | .ip _ | .fn _ _ => false
def dryL : List AV → Bool
  | [] => true
  | x :: l => x.dry && dryL l
end
theorem dryL_get : ∀ {l : List AV} {i : Nat} {x : AV}, dryL l = true → l[i]? = some x → x.dry = true
  | [], _, _, _, h => by simp at h
  | y :: l, 0, x, h, hx => by simp at hx; subst hx; simp [dryL] at h; exact h.1
  | y :: l, i + 1, x, h, hx => by simp [dryL] at h; exact dryL_get h.2 (by simpa using hx)

def OB.dry : OB → Bool
  | .dead => true
  | .cells _ => false
  | .slab _ => false
  | .vec _ es => exactR es
  | .forest _ _ => true
def OB.dryL : List OB → Bool
  | [] => true
  | o :: l => o.dry && OB.dryL l
theorem OB.dryL_get : ∀ {l : List OB} {i : Nat} {o : OB}, OB.dryL l = true → l[i]? = some o → o.dry = true
  | [], _, _, _, h => by simp at h
  | y :: l, 0, x, h, hx => by simp at hx; subst hx; simp [OB.dryL] at h; exact h.1
  | y :: l, i + 1, x, h, hx => by simp [OB.dryL] at h; exact OB.dryL_get h.2 (by simpa using hx)

theorem VR.dry {w : World} {ρ ρ' : Env} {v : Value} {x : AV} (h : VR w ρ v x) (hx : x.dry = true) (σ : Nat → Nat) (hσ : ∀ (r : Nat) l, ρ.l[r]? = some l → ρ'.l[σ r]? = some l) : VR w ρ' v (x.ren σ) := by
  induction h with
  | pr h =>
    cases h with
    | any => simp only [AV.ren]; exact .pr (.any _)
    | val => simp only [AV.ren]; exact .pr (.val _)
    | slnil => simp [AV.dry] at hx
    | sl => simp [AV.dry] at hx
  | agg c l hs _ ih =>
    simp only [AV.dry] at hx
    simp only [AV.ren, renL_map]
    refine .agg c _ (by simpa using hs) fun i v x hv hx' => ?_
    rw [List.getElem?_map] at hx'
    cases hl : l[i]? with
    | none => simp [hl] at hx'
    | some y => simp [hl] at hx'; subst hx'; exact ih i v y hv hl (dryL_get hx hl)
  | tup c l hs _ ih =>
    simp only [AV.dry] at hx
    simp only [AV.ren, renL_map]
    refine .tup c _ (by simpa using hs) fun i v x hv hx' => ?_
    rw [List.getElem?_map] at hx'
    cases hl : l[i]? with
    | none => simp [hl] at hx'
    | some y => simp [hl] at hx'; subst hx'; exact ih i v y hv hl (dryL_get hx hl)
  | ip => simp [AV.dry] at hx
  | ptr r off b base hr => simp only [AV.ren]; exact .ptr _ off b base (hσ _ _ hr)
  | vp r k i off b base hr => simp only [AV.ren]; exact .vp _ k i off b base (hσ _ _ hr)
  | osnil r k hr => simp only [AV.ren]; exact .osnil _ k (hσ _ _ hr)
  | osz r k off a b base hr => simp only [AV.ren]; exact .osz _ k off a b base (hσ _ _ hr)
  | os r k off n c b base cs e fz hr hc hb hsz => simp only [AV.ren]; exact .os _ k off n c b base cs e fz (hσ _ _ hr) hc hb hsz
  | fn => simp [AV.dry] at hx

/-- What is own, read as something immutable. -/
inductive Bor (L : List OB) : AV → AV → Prop
  | free (x : AV) (h : x.free = true) : Bor L x x
  | item (r i : Nat) (S : Nat → Prop) (items : List (Value × AV)) (v : Value) (x : AV) (h : L[r]? = some (.forest S items)) (hi : items[i]? = some (v, x)) : Bor L (.val v) x
  | row (r k n : Nat) (es : List (List AV)) (h : L[r]? = some (.vec k es)) (hn : n = es.length) : Bor L (.os r k 0 n) (.sl es)
  | part (r k off n : Nat) (es : List (List AV)) (h : L[r]? = some (.vec k es)) (hn : off + n ≤ es.length) : Bor L (.os r k off n) (.sl ((es.drop off).take n))
  | agg (l l' : List AV) (hl : l.length = l'.length) (h : ∀ (i : Nat) x y, l[i]? = some x → l'[i]? = some y → Bor L x y) : Bor L (.agg l) (.agg l')
  | ptr (r : Nat) (cs : List AV) (h : L[r]? = some (.cells cs)) (hp : cs.all AV.pure = true) : Bor L (.ptr r 0) (.ip cs)

def BorL (L : List OB) : List AV → List AV → Prop
  | [], [] => True
  | x :: l, y :: l' => Bor L x y ∧ BorL L l l'
  | _, _ => False
theorem BorL.get {L : List OB} : ∀ {l l' : List AV}, BorL L l l' → l.length = l'.length ∧ ∀ (i : Nat) x y, l[i]? = some x → l'[i]? = some y → Bor L x y
  | [], [], _ => ⟨rfl, by simp⟩
  | x :: l, y :: l', h => by
    obtain ⟨h1, h2⟩ := BorL.get h.2
    refine ⟨by simp [h1], fun i a b ha hb => ?_⟩
    cases i with
    | zero => simp at ha hb; subst ha; subst hb; exact h.1
    | succ i => exact h2 i a b (by simpa using ha) (by simpa using hb)
  | [], _ :: _, h => h.elim
  | _ :: _, [], h => h.elim
def rhoNone : Env := { l := [], X := fun _ => False }
theorem rhoNone_own : ∀ b, ¬ own rhoNone b := fun b hb => by
  rcases hb with ⟨j, base, hj⟩ | hb
  · simp [rhoNone] at hj
  · exact hb
theorem rhoNone_no : ∀ b, ¬ no rhoNone b := fun b hb => hb.elim (rhoNone_own b) id

theorem VR.bor {w : World} {ρ : Env} {L : List OB} (hh : HR w ρ L) {x y : AV} (hb : Bor L x y) : ∀ {v : Value}, VR w ρ v x → VR w rhoNone v y := by
  induction hb with
  | free x h =>
    intro v hv
    have := hv.mono (w' := w) (ρ' := rhoNone) .refl (fun b _ hb => (rhoNone_no b hb).elim) (fun _ => false) (fun r l hp => by cases hp)
    rwa [AV.free_filt h] at this
  | item r i S items v x h hi =>
    intro u hu
    have := val_inv hu
    subst this
    have hlt : r < ρ.l.length := by rw [hh.len]; exact (List.getElem?_eq_some_iff.1 h).1
    obtain ⟨F, _, _, f3⟩ := (hh.ent r _ _ h (List.getElem?_eq_getElem hlt)).2
    exact .pr ((f3 i _ _ hi).pr fun b _ => rhoNone_no b)
  | row r k n es h hn =>
    intro v hv
    have h1 := hv.frz hh h
    have e : AV.frz r k es (.os r k 0 n) = .sl es := by
      simp only [AV.frz, if_true, Nat.zero_add, true_and]
      rw [if_pos (by omega), List.drop_zero, List.take_of_length_le (by omega)]
    rw [e] at h1
    cases h1 with
    | pr h1 => exact .pr (h1.mono (fun _ _ _ => rfl) (Nat.le_refl _) (fun b _ hb => (rhoNone_no b hb).elim))
  | part r k off n es h hn =>
    intro v hv
    have h1 := hv.frz hh h
    have e : AV.frz r k es (.os r k off n) = .sl ((es.drop off).take n) := by
      simp only [AV.frz, if_true, true_and]
      rw [if_pos hn]
    rw [e] at h1
    cases h1 with
    | pr h1 => exact .pr (h1.mono (fun _ _ _ => rfl) (Nat.le_refl _) (fun b _ hb => (rhoNone_no b hb).elim))
  | agg l l' hl h ih =>
    intro v hv
    cases hv with
    | pr hp => cases hp
    | agg c _ hs hc =>
      refine .agg c l' (by omega) fun i u y hu hy => ?_
      have hi : i < l.length := by rw [hl]; exact (List.getElem?_eq_some_iff.1 hy).1
      exact ih i _ y (List.getElem?_eq_getElem hi) hy (hc i u _ hu (List.getElem?_eq_getElem hi))
  | ptr r cs h hp =>
    intro v hv
    cases hv with
    | pr hp => cases hp
    | ptr _ _ b base hb =>
      obtain ⟨b', c, e, g1, g2, g3, g4⟩ := hh.ent r _ _ h hb
      cases g1
      have hlt : b < w.heap.size := by
        rcases Nat.lt_or_ge b w.heap.size with h | h
        · exact h
        · rw [Array.getElem?_eq_none h] at g2; cases g2
      refine .ip b 0 cs (fun j => c[j]?.getD undef) (rhoNone_no b) hlt (fun j x hx => ?_) fun j x hx => ?_
      · have hj : j < c.size := by rw [g3]; exact (List.getElem?_eq_some_iff.1 hx).1
        simp [World.cell?, g2, hj]
      · have hj : j < c.size := by rw [g3]; exact (List.getElem?_eq_some_iff.1 hx).1
        simp only [Array.getElem?_eq_getElem hj, Option.getD_some]
        have hv := g4 j _ x (Array.getElem?_eq_getElem hj) hx
        have hpx : x.pure = true := List.all_eq_true.1 hp _ (List.mem_of_getElem? hx)
        have hpr : PR w (no ρ) c[j] x := by
          generalize c[j] = u at hv
          cases hv with
          | pr h => exact h
          | _ => simp [AV.pure] at hpx
        exact hpr.mono (fun _ _ _ => rfl) (Nat.le_refl _) (fun b _ hb => (rhoNone_no b hb).elim)

/-- A call that reads own memory, and hands back what is exact, or own. -/
theorem acall_bor {f : FuncId} {args' : List AV} {R : AV → List OB → Prop} (h : ACalls P f args' [] [] R) {args : List AV} {s : AS} (hb : BorL s.L args args') (hd : ∀ r L, R r L → r.dry = true ∧ OB.dryL L = true)
    {K : AV → AS → Prop} (hK : ∀ r L', R r L' → K (r.ren (s.L.length + ·)) { s with L := s.L ++ L'.map (OB.ren (s.L.length + ·)) }) : ACall P fx (.fn f []) args s K := by
  intro ρ a w vf vs hr hvf hvl hv
  obtain ⟨hent, hcalls⟩ := h
  obtain ⟨bl, bg⟩ := hb.get
  cases hvf with
  | pr hp => cases hp
  | fn f cv _ hs hc =>
  simp only [Deferred.ofValue, Sem.run_bind, Sem.run_pure, Result.andThen_ok, invoke, Array.empty_append]
  rw [hent]
  simp only [Out]
  have hcv : cv = #[] := Array.size_eq_zero_iff.1 (by simpa using hs)
  subst hcv
  rw [Array.append_empty]
  have hHR : HR w rhoNone [] := ⟨rfl, fun b hb => hb.elim, fun b hb => (rhoNone_own b hb).elim, fun j j' b base base' h1 => by simp [rhoNone] at h1, fun j o l h1 => by simp at h1, ⟨fun b hb => (False.elim hb), fun b j base hb => (False.elim hb), fun j S items b h1 => by simp at h1, fun j j' S S' items items' b h1 => by simp at h1⟩⟩
  refine (hcalls rhoNone w vs hHR (by omega) fun i v y h1 h2 => ?_).mono fun e w' ⟨v, res, L', ρ', he, hR, hle, hvr, hhr, hst⟩ => ?_
  · have hi : i < args.length := by rw [bl]; exact (List.getElem?_eq_some_iff.1 h2).1
    exact (hv i v _ h1 (List.getElem?_eq_getElem hi)).bor hr.hr (bg i _ y (List.getElem?_eq_getElem hi) h2)
  · obtain ⟨d1, d2⟩ := hd res L' hR
    have hg : Grow w w' := ⟨hst.fr.le, fun b hb _ => hst.fr.same b hb (rhoNone_own b), hst.fr.size, hst.fr.os, hst.fr.out, hst.fr.tape⟩
    have hnew : ∀ b, own ρ' b → w.heap.size ≤ b := fun b hb => Nat.le_of_not_lt fun hlt => rhoNone_own b (hst.sub b hlt hb)
    let ρn : Env := { l := ρ.l ++ ρ'.l, X := ρ.X, T := fun b => ρ.T b ∨ ρ'.T b }
    have hlen := hr.hr.len
    have inv : ∀ {q : Nat} {b base : Nat}, ρn.l[q]? = some (some (b, base)) → (q < ρ.l.length ∧ ρ.l[q]? = some (some (b, base))) ∨ (ρ.l.length ≤ q ∧ ρ'.l[q - ρ.l.length]? = some (some (b, base))) := fun {q b base} hq => by
      simp only [ρn] at hq
      by_cases hl : q < ρ.l.length
      · rw [List.getElem?_append_left hl] at hq; exact .inl ⟨hl, hq⟩
      · rw [List.getElem?_append_right (by omega)] at hq; exact .inr ⟨by omega, hq⟩
    have hown : ∀ b, own ρn b → own ρ b ∨ own ρ' b := fun b hb => by
      rcases hb with ⟨q, base, hq⟩ | hb | hb
      · rcases inv hq with ⟨_, h⟩ | ⟨_, h⟩
        · exact .inl (.l h)
        · exact .inr (.l h)
      · exact .inl (.inr hb)
      · exact .inr (.inr hb)
    have old : ∀ (r : Nat) l, ρ.l[r]? = some l → ρn.l[r]? = some l := fun r l hl => by
      simp only [ρn]
      rw [List.getElem?_append_left (List.getElem?_eq_some_iff.1 hl).1]; exact hl
    have new : ∀ (r : Nat) l, ρ'.l[r]? = some l → ρn.l[s.L.length + r]? = some l := fun r l hl => by
      simp only [ρn]
      rw [List.getElem?_append_right (by omega), ← hl]
      congr 1; omega
    have hno : ∀ b, b < w.heap.size → no ρn b → no ρ b := fun b hlt hb => by
      rcases hb with hb | hb
      · rcases hown b hb with h | h
        · exact .inl h
        · have := hnew b h; omega
      · exact .inr hb
    have keep : ∀ {v x}, VR w ρ v x → VR w' ρn v x := fun hv => hv.keep (hg.fr _) hno old
    have keepP : ∀ {v x}, PR w (no ρ) v x → PR w' (no ρn) v x := fun hv => hv.mono (fun b hb _ => hg.same b hb (fun h => h)) hg.le hno
    have hfo : ∀ {q : Nat} {S : Nat → Prop} {l : List (Value × AV)}, (s.L ++ L'.map (OB.ren (s.L.length + ·)))[q]? = some (.forest S l) → (q < s.L.length ∧ s.L[q]? = some (.forest S l)) ∨ (s.L.length ≤ q ∧ L'[q - s.L.length]? = some (.forest S l)) := fun {q S l} hq => by
      by_cases hl : q < s.L.length
      · rw [List.getElem?_append_left hl] at hq; exact .inl ⟨hl, hq⟩
      · rw [List.getElem?_append_right (by omega), List.getElem?_map] at hq
        cases ho : L'[q - s.L.length]? with
        | none => simp [ho] at hq
        | some o =>
          cases o <;> simp [ho, OB.ren] at hq
          exact .inr ⟨by omega, by rw [hq.1, hq.2]⟩
    refine ⟨v, he, _, _, ρn, hK res L' hR, ⟨hr.dfr, hr.size, fun i u x h1 h2 => keep (hr.tm i u x h1 h2), ⟨by simp [ρn, hlen, hhr.len], fun b hb => Nat.lt_of_lt_of_le (hr.hr.xlt b hb) hg.le, fun b hb hx => ?_, fun q q' b base base' h1 h2 => ?_, fun q o l h1 h2 => ?_,
      ⟨fun b hb => ?_, fun b q base hb hq => ?_, fun q S l b hq hS => ?_, fun q q' S S' l l' b h1 h2 hS hS' => ?_⟩⟩⟩, hvr.dry d1 _ new, ⟨hg.fr _, fun b hlt hb => ?_, fun q _ x hx => old q x hx, rfl⟩⟩
    · rcases hown b hb with h | h
      · exact hr.hr.disj b h hx
      · have := hnew b h; have := hr.hr.xlt b hx; omega
    · rcases inv h1 with ⟨n1, g1⟩ | ⟨n1, g1⟩ <;> rcases inv h2 with ⟨n2, g2⟩ | ⟨n2, g2⟩
      · exact hr.hr.inj _ _ _ _ _ g1 g2
      · have := own_lt hr.hr (.l g1); have := hnew b (.l g2); omega
      · have := own_lt hr.hr (.l g2); have := hnew b (.l g1); omega
      · have := hhr.inj _ _ _ _ _ g1 g2; omega
    · by_cases hl : q < s.L.length
      · rw [List.getElem?_append_left hl] at h1
        simp only [ρn] at h2
        rw [List.getElem?_append_left (by omega)] at h2
        have he := hr.hr.ent q o l h1 h2
        cases o with
        | dead => exact he
        | cells cs =>
          obtain ⟨b, c, e, g1, g2, g3, g4⟩ := he
          exact ⟨b, c, e, g1, by rw [hg.same b (Array.getElem?_eq_some_iff.1 g2).1 (fun h => h)]; exact g2, g3, fun i v x h5 h6 => keep (g4 i v x h5 h6)⟩
        | slab cs =>
          rcases he with ⟨hz1, hz2⟩ | ⟨b, base0, c, e, g1, g2, g3, g4⟩
          · exact .inl ⟨hz1, by simpa using hz2⟩
          exact .inr ⟨b, base0, c, e, g1, by rw [hg.same b (Array.getElem?_eq_some_iff.1 g2).1 (fun h => h)]; exact g2, g3, fun i v x h5 h6 => keep (g4 i v x h5 h6)⟩
        | vec k es =>
          obtain ⟨h0, hl', hd⟩ := he
          refine ⟨h0, hl', ?_⟩
          rcases hd with hd | ⟨b, base, c, e, g1, g2, g3, g4⟩
          · exact .inl hd
          · exact .inr ⟨b, base, c, e, g1, by rw [hg.same b (Array.getElem?_eq_some_iff.1 g2).1 (fun h => h)]; exact g2, g3,
              fun i j ei x h5 h6 => let ⟨v, h7, h8⟩ := g4 i j ei x h5 h6; ⟨v, h7, keepP h8⟩⟩
        | forest S l => exact ⟨he.1, he.2.keep fun b _ hb => hg.same b hb (fun h => h)⟩
      · rw [List.getElem?_append_right (by omega), List.getElem?_map] at h1
        simp only [ρn] at h2
        rw [List.getElem?_append_right (by omega), hlen] at h2
        cases ho : L'[q - s.L.length]? with
        | none => simp [ho] at h1
        | some o' =>
          simp [ho] at h1; subst h1
          have he := hhr.ent _ o' l ho h2
          have hdo := OB.dryL_get d2 ho
          cases o' with
          | dead => exact he
          | cells cs => simp [OB.dry] at hdo
          | slab cs => simp [OB.dry] at hdo
          | forest S l => exact he
          | vec k es =>
            obtain ⟨h0, hl', hd⟩ := he
            refine ⟨h0, hl', ?_⟩
            rcases hd with hd | ⟨b, base, c, e, g1, g2, g3, g4⟩
            · exact .inl hd
            · refine .inr ⟨b, base, c, e, g1, g2, g3, fun i j ei x h5 h6 => ?_⟩
              obtain ⟨v, h7, h8⟩ := g4 i j ei x h5 h6
              obtain ⟨u, rfl⟩ := exactR_get (by simpa [OB.dry] using hdo) h5 h6
              cases h8
              exact ⟨_, h7, .val _⟩
    · rcases hb with hb | hb
      · exact Nat.lt_of_lt_of_le (hr.hr.t.lt b hb) hg.le
      · exact hhr.t.lt b hb
    · rcases hb with hb | hb <;> rcases inv hq with ⟨n1, g1⟩ | ⟨n1, g1⟩
      · exact hr.hr.t.dl b q base hb g1
      · have := hr.hr.t.lt b hb; have := hnew b (.l g1); omega
      · have := own_lt hr.hr (.l g1); have := hnew b (.inr hb); omega
      · exact hhr.t.dl b _ base hb g1
    · rcases hfo hq with ⟨_, h1⟩ | ⟨_, h1⟩
      · exact .inl (hr.hr.t.sub _ _ _ b h1 hS)
      · exact .inr (hhr.t.sub _ _ _ b h1 hS)
    · rcases hfo h1 with ⟨n1, g1⟩ | ⟨n1, g1⟩ <;> rcases hfo h2 with ⟨n2, g2⟩ | ⟨n2, g2⟩
      · exact hr.hr.t.dis _ _ _ _ _ _ b g1 g2 hS hS'
      · have := hr.hr.t.lt b (hr.hr.t.sub _ _ _ b g1 hS); have := hnew b (.inr (hhr.t.sub _ _ _ b g2 hS')); omega
      · have := hr.hr.t.lt b (hr.hr.t.sub _ _ _ b g2 hS'); have := hnew b (.inr (hhr.t.sub _ _ _ b g1 hS)); omega
      · have := hhr.t.dis _ _ _ _ _ _ b g1 g2 hS hS'; omega
    · rcases hown b hb with h | h
      · exact h
      · have := hnew b h; omega

/-- A call that only tells something about what it reads. -/
theorem acall_tell {f : FuncId} {args' : List AV} {u : Value} (h : ACalls P f args' [] [] (fun r L => r = .val u ∧ L = [])) {args : List AV} {s : AS} (hb : BorL s.L args args') {K : AV → AS → Prop} (hK : K (.val u) s) : ACall P fx (.fn f []) args s K :=
  acall_bor h hb (fun r L ⟨h1, h2⟩ => by subst h1; subst h2; exact ⟨rfl, rfl⟩) fun r L ⟨h1, h2⟩ => by
    subst h1; subst h2
    simpa [AV.ren] using hK

/-- A contract that yields an own row, told as one that yields an immutable one. -/
theorem ACalls.frozen {P : Program} {f : FuncId} {args : List AV} {k : Nat} {es : List (List AV)} {n : Nat} (h : ACalls P f args [] [] (fun r L => r = .os 0 k 0 n ∧ L = [.vec k es])) (hn : n = es.length) : ACalls P f args [] [] (fun r L => r = .sl es ∧ L = []) :=
  h.fin fun r L ⟨h1, h2⟩ _ => by subst h1; subst h2; exact fin_row rfl hn ⟨rfl, rfl⟩

/-- An own row that is handed back. -/
theorem fin_own {R : AV → List OB → Prop} {s : AS} {r k n : Nat} {es : List (List AV)} (hL : s.L[r]? = some (.vec k es)) (hR : R (.os 0 k 0 n) [.vec k es]) : Fin [] 0 R s (.os r k 0 n) :=
  fin_ks [r] (.os 0 k 0 n) [.vec k es] hR (by simp [AV.ren, nameK]) ⟨hL, trivial⟩ (by simp) (by simp) (by simp)
end

end Go.Pc

/- The abstract logic, fifteenth part: regions that draw their order, with a literal at the end of the head. -/
namespace Go.Pc
open Go

section
variable {P : Program} {T : TypeId → Ty} {fx bl : List Nat}

end

end Go.Pc
