/- The abstract logic, fifth part: append. -/
import Derived.Test.YtajkeegikligcaaDoorAl
set_option linter.unusedSimpArgs false
set_option linter.unusedVariables false
namespace Go.Pc
open Go

def OB.kill (r : Nat) : OB → OB
  | .cells cs => .cells (cs.map (AV.filt fun r' => r' != r))
  | .slab cs => .slab (cs.map (AV.filt fun r' => r' != r))
  | o => o

/-- The state with all that names own block r forgotten. -/
def AS.kill (r : Nat) (s : AS) : AS := { tm := s.tm.map (AV.filt fun r' => r' != r), L := s.L.map (OB.kill r) }

section
variable {P : Program} {T : TypeId → Ty}

def Env.at (ρ : Env) (r : Nat) (l : Option (Nat × Nat)) : Env := { ρ with l := ρ.l.set r l }

theorem own_at {ρ : Env} {r b : Nat} {l : Option (Nat × Nat)} (h : own (ρ.at r l) b) : (∃ r' base, r' ≠ r ∧ ρ.l[r']? = some (some (b, base))) ∨ (∃ base, l = some (b, base)) ∨ ρ.T b := by
  rcases h with ⟨r', base, hr⟩ | h
  case inr => exact .inr (.inr h)
  simp only [Env.at] at hr
  by_cases he : r = r'
  · subst he
    simp only [List.getElem?_set] at hr
    simp at hr
    exact .inr (.inl ⟨base, hr.2⟩)
  · rw [List.getElem?_set_ne he] at hr
    exact .inl ⟨r', base, fun e => he e.symm, hr⟩

/-- Own row r lies somewhere else now (or somewhere else in its block); what named it has been forgotten. -/
theorem Rel.revec {fx : List Nat} {ρ : Env} {s : AS} {a : Act} {w w' : World} (h : Rel ρ s a w) {r : Nat} (hfx : r ∉ fx) {l0 l' : Option (Nat × Nat)} (hρ : ρ.l[r]? = some l0) (hf : Fr (own ρ) w w')
    (hsame : ∀ b, b < w.heap.size → (∀ base, l0 ≠ some (b, base)) → w'.heap[b]? = w.heap[b]?) (hl' : ∀ g base, l' = some (g, base) → w.heap.size ≤ g ∨ ∃ base0, l0 = some (g, base0))
    (o : OB) (he : (∀ v x, PR w (no ρ) v x → PR w' (no (ρ.at r l')) v x) → EntR w' (ρ.at r l') l' o)
    (hof : ∀ S items, o ≠ .forest S items := by intro S items hh; cases hh) :
    Rel (ρ.at r l') { s.kill r with L := (s.kill r).L.set r o } a w' ∧ St fx ρ w (ρ.at r l') w' := by
  have hrl : r < ρ.l.length := by
    rcases Nat.lt_or_ge r ρ.l.length with h' | h'
    · exact h'
    · simp [List.getElem?_eq_none h'] at hρ
  have hsub : ∀ b, b < w.heap.size → own (ρ.at r l') b → own ρ b := fun b hb ho => by
    rcases own_at ho with ⟨r', base, _, h⟩ | ⟨base, h⟩ | h
    · exact .l h
    · rcases hl' _ _ h with h | ⟨base0, h⟩
      · omega
      · exact .l (r := r) (base := base0) (by rw [hρ, h])
    · exact .inr h
  have hgetT : ∀ {r1 b base : Nat}, (ρ.at r l').l[r1]? = some (some (b, base)) → b < w.heap.size → own ρ b ∧ ∃ r2 base2, ρ.l[r2]? = some (some (b, base2)) := fun {r1 b base} hh hb => by
    have h1 : (∃ r' base, r' ≠ r ∧ ρ.l[r']? = some (some (b, base))) ∨ ∃ base, l' = some (b, base) := by
      simp only [Env.at] at hh
      by_cases e : r = r1
      · subst e
        simp only [List.getElem?_set] at hh
        simp at hh
        exact .inr ⟨_, hh.2⟩
      · rw [List.getElem?_set_ne e] at hh
        exact .inl ⟨r1, base, fun e' => e e'.symm, hh⟩
    rcases h1 with ⟨r', base, _, h⟩ | ⟨base, h⟩
    · exact ⟨.l h, r', base, h⟩
    · rcases hl' _ _ h with h | ⟨base0, h⟩
      · omega
      · have h2 : ρ.l[r]? = some (some (b, base0)) := by rw [hρ, h]
        exact ⟨.l h2, r, base0, h2⟩
  have hfo : ∀ {r' : Nat} {S : Nat → Prop} {items : List (Value × AV)}, ((s.kill r).L.set r o)[r']? = some (OB.forest S items) → r ≠ r' ∧ s.L[r']? = some (OB.forest S items) := fun {r' S items} hh => by
    by_cases e : r = r'
    · subst e
      simp only [List.getElem?_set] at hh
      simp at hh
      exact absurd hh.2 (hof S items)
    · rw [List.getElem?_set_ne e] at hh
      simp only [AS.kill, List.getElem?_map] at hh
      cases hq : s.L[r']? with
      | none => simp [hq] at hh
      | some o0 =>
        cases o0 <;> simp [hq, OB.kill] at hh
        exact ⟨e, by rw [hh.1, hh.2]⟩
  have hno : ∀ b, b < w.heap.size → no (ρ.at r l') b → no ρ b := fun b hb hn => by
    rcases hn with hn | hn
    · exact .inl (hsub b hb hn)
    · exact .inr hn
  have hold : ∀ r', (r' != r) = true → (ρ.at r l').l[r']? = ρ.l[r']? := fun r' hr' => by
    simp only [Env.at]
    rw [List.getElem?_set_ne (fun e => by subst e; simp at hr')]
  have keep : ∀ v x, VR w ρ v x → VR w' (ρ.at r l') v (x.filt fun r' => r' != r) := fun v x hv => hv.mono hf hno _ (fun r' l hp hl => by rw [hold r' hp]; exact hl)
  have keepP : ∀ v x, PR w (no ρ) v x → PR w' (no (ρ.at r l')) v x := fun v x hv => hv.mono (fun b hb hn => hf.same b hb fun h => hn (.inl h)) hf.le hno
  refine ⟨⟨h.dfr, by simp [AS.kill, h.size], fun i v x h1 h2 => ?_, ⟨by simp [Env.at, AS.kill, h.hr.len], fun b hb => Nat.lt_of_lt_of_le (h.hr.xlt b hb) hf.le, fun b hb hx => ?_, fun r1 r2 b base base' h1 h2 => ?_, fun r' o' l h1 h2 => ?_, ⟨fun b hb => Nat.lt_of_lt_of_le (h.hr.t.lt b hb) hf.le, fun b r1 base ht hl1 => ?_, fun r1 S items b hL hS => h.hr.t.sub r1 S items b (hfo hL).2 hS, fun r1 r2 S S' items items' b h1 h2 => h.hr.t.dis r1 r2 S S' items items' b (hfo h1).2 (hfo h2).2⟩⟩⟩, ⟨hf, hsub, fun r' hr' x hx => ?_, rfl⟩⟩
  · simp only [AS.kill, List.getElem?_map] at h2
    cases hq : s.tm[i]? with
    | none => simp [hq] at h2
    | some y => simp [hq] at h2; subst h2; exact keep _ _ (h.tm i v y h1 hq)
  · rcases own_at hb with ⟨r', base, _, h'⟩ | ⟨base, h'⟩ | h'
    · exact h.hr.disj b (.l h') hx
    · rcases hl' _ _ h' with h'' | ⟨base0, h''⟩
      · have := h.hr.xlt b hx; omega
      · exact h.hr.disj b (.l (r := r) (base := base0) (by rw [hρ, h''])) hx
    · exact h.hr.disj b (.inr h') hx
  · have case : ∀ {r1 base}, (ρ.at r l').l[r1]? = some (some (b, base)) → (r1 ≠ r ∧ ρ.l[r1]? = some (some (b, base))) ∨ (r1 = r ∧ l' = some (b, base)) := fun {r1 base} hr1 => by
      simp only [Env.at] at hr1
      by_cases e : r = r1
      · subst e
        simp only [List.getElem?_set] at hr1
        simp at hr1
        exact .inr ⟨rfl, hr1.2⟩
      · rw [List.getElem?_set_ne e] at hr1
        exact .inl ⟨fun e' => e e'.symm, hr1⟩
    rcases case h1 with ⟨n1, g1⟩ | ⟨e1, g1⟩ <;> rcases case h2 with ⟨n2, g2⟩ | ⟨e2, g2⟩
    · exact h.hr.inj _ _ _ _ _ g1 g2
    · rcases hl' _ _ g2 with hh | ⟨base0, hh⟩
      · have := own_lt h.hr (.l g1); omega
      · exact absurd (h.hr.inj _ _ _ _ _ g1 (by rw [hρ, hh])) n1
    · rcases hl' _ _ g1 with hh | ⟨base0, hh⟩
      · have := own_lt h.hr (.l g2); omega
      · exact absurd (h.hr.inj _ _ _ _ _ g2 (by rw [hρ, hh])) n2
    · omega
  · by_cases e : r = r'
    · subst e
      simp only [Env.at, List.getElem?_set] at h2
      simp only [List.getElem?_set] at h1
      simp at h1 h2
      rw [← h2.2, ← h1.2]
      exact he keepP
    · simp only [Env.at] at h2
      rw [List.getElem?_set_ne e] at h1 h2
      simp only [AS.kill, List.getElem?_map] at h1
      cases hq : s.L[r']? with
      | none => simp [hq] at h1
      | some o0 =>
        simp [hq] at h1
        have hent := h.hr.ent r' o0 l hq h2
        have hne : ∀ b base', l = some (b, base') → ∀ base, l0 ≠ some (b, base) := fun b base' hl base e' => by
          subst hl; subst e'
          exact e (h.hr.inj _ _ _ _ _ hρ h2)
        cases o0 with
        | dead => simp [OB.kill] at h1; subst h1; exact hent
        | cells cs =>
          simp [OB.kill] at h1; subst h1
          obtain ⟨b, c, ty, g1, g2, g3, g4⟩ := hent
          refine ⟨b, c, ty, g1, by rw [hsame b (Array.getElem?_eq_some_iff.1 g2).1 (hne _ _ g1)]; exact g2, by simpa using g3, fun i v x h5 h6 => ?_⟩
          rw [List.getElem?_map] at h6
          cases hx : cs[i]? with
          | none => simp [hx] at h6
          | some y => simp [hx] at h6; subst h6; exact keep _ _ (g4 i v y h5 hx)
        | slab cs =>
          simp [OB.kill] at h1; subst h1
          rcases hent with ⟨hz1, hz2⟩ | ⟨b, base0, c, ty, g1, g2, g3, g4⟩
          · exact .inl ⟨hz1, by simpa using hz2⟩
          refine .inr ⟨b, base0, c, ty, g1, by rw [hsame b (Array.getElem?_eq_some_iff.1 g2).1 (hne _ _ g1)]; exact g2, by simpa using g3, fun i v x h5 h6 => ?_⟩
          rw [List.getElem?_map] at h6
          cases hx : cs[i]? with
          | none => simp [hx] at h6
          | some y => simp [hx] at h6; subst h6; exact keep _ _ (g4 i v y h5 hx)
        | vec k es =>
          simp [OB.kill] at h1; subst h1
          obtain ⟨h0, hl, hd⟩ := hent
          refine ⟨h0, hl, ?_⟩
          rcases hd with hd | ⟨b, base', c, ty, g1, g2, g3, g4⟩
          · exact .inl hd
          · exact .inr ⟨b, base', c, ty, g1, by rw [hsame b (Array.getElem?_eq_some_iff.1 g2).1 (hne _ _ g1)]; exact g2, g3, fun i j ei x h5 h6 => let ⟨v, h7, h8⟩ := g4 i j ei x h5 h6; ⟨v, h7, keepP _ _ h8⟩⟩
        | forest S items =>
          simp [OB.kill] at h1; subst h1
          exact ⟨hent.1, hent.2.keep fun b hS hb => hsame b hb fun base hl0 => h.hr.t.dl b r base (h.hr.t.sub _ _ _ b hq hS) (by rw [hρ, hl0])⟩
  · obtain ⟨_, r2, base2, h2⟩ := hgetT hl1 (h.hr.t.lt b ht)
    exact h.hr.t.dl b r2 base2 ht h2
  · rw [hold r' (by simp; intro e; subst e; exact hfx hr')]; exact hx

/-- The elements that a slice shows. -/
def elemsOf (s : AS) (x : AV) : Option (List (List AV)) :=
  match x with
  | .sl es => some es
  | .os r k off n =>
    match s.L[r]? with
    | some (.vec k' es) => if k = k' ∧ off + n ≤ es.length then some ((es.drop off).take n) else none
    | _ => none
  | .val (.slice none 0 0) => some []
  | _ => none

/-- What a slice of m elements of k cells each holds, as values. -/
structure Shown (P : Program) (w : World) (ρ : Env) (v : Value) (k : Nat) (es : List (List AV)) (news : List Value) : Prop where
  val : ∃ b c, v = .slice b es.length c
  len : news.length = es.length * k
  run : (Builtin.firstCells k es.length v).run P w = .ok news.toArray w
  at_ : 0 < es.length → ∃ ad c, v = .slice (some ad) es.length c ∧ ∀ j u, news[j]? = some u → w.cell? (ad.add j) = some u
  get : ∀ (i j : Nat) ei x, es[i]? = some ei → ei[j]? = some x → ∃ u, news[i * k + j]? = some u ∧ PR w (no ρ) u x

theorem shown_nil (w : World) (ρ : Env) (k : Nat) (b : Option Addr) (c : Nat) : Shown P w ρ (.slice b 0 c) k [] [] where
  val := ⟨b, c, rfl⟩
  len := by simp
  run := by cases b <;> simp [Builtin.firstCells, loadCells, loadCellsFrom]
  at_ h := by simp at h
  get i j ei x h1 := by simp at h1

theorem shown_at {w : World} {ρ : Env} {b o k n c : Nat} {es : List (List AV)} (hn : es.length = n) (hl : ∀ (i : Nat) e, es[i]? = some e → e.length = k)
    (hc : ∀ (i j : Nat) ei x, es[i]? = some ei → ei[j]? = some x → ∃ u, w.cell? ⟨b, o + (i * k + j), none⟩ = some u ∧ PR w (no ρ) u x) : ∃ news, Shown P w ρ (.slice (some ⟨b, o, none⟩) n c) k es news := by
  subst hn
  let f : Nat → Value := fun j => (w.cell? ⟨b, o + j, none⟩).getD undef
  have hex : ∀ j, j < es.length * k → ∃ i j', j = i * k + j' ∧ i < es.length ∧ j' < k := fun j hj => by
    have hk : 0 < k := by
      rcases Nat.eq_zero_or_pos k with h | h
      · subst h; simp at hj
      · exact h
    exact ⟨j / k, j % k, by rw [Nat.mul_comm]; exact (Nat.div_add_mod j k).symm, Nat.div_lt_of_lt_mul (by rw [Nat.mul_comm]; exact hj), Nat.mod_lt _ hk⟩
  have hcell : ∀ j, j < es.length * k → w.cell? ((⟨b, o, none⟩ : Addr).add j) = some (f j) := fun j hj => by
    obtain ⟨i, j', rfl, hi, hj'⟩ := hex j hj
    have he := List.getElem?_eq_getElem hi
    have hel := hl i _ he
    obtain ⟨u, h1, _⟩ := hc i j' _ _ he (List.getElem?_eq_getElem (by omega))
    rw [add_off]
    simp [f, h1]
  have hget : ∀ j, j < es.length * k → ((List.range (es.length * k)).map f)[j]? = some (f j) := fun j hj => by
    rw [List.getElem?_map, List.getElem?_range hj]; rfl
  refine ⟨(List.range (es.length * k)).map f, ⟨_, c, rfl⟩, by simp, ?_, fun _ => ⟨_, c, rfl, fun j u hj => ?_⟩, fun i j ei x h1 h2 => ?_⟩
  · simp only [Builtin.firstCells, run_loadCells w _ _ f hcell]
  · have hlt : j < es.length * k := by
      rcases Nat.lt_or_ge j (es.length * k) with h' | h'
      · exact h'
      · rw [List.getElem?_eq_none (by simpa using h')] at hj; cases hj
    rw [hget j hlt] at hj
    cases hj
    exact hcell j hlt
  · obtain ⟨u, h3, h4⟩ := hc i j ei x h1 h2
    have hel := hl i ei h1
    have hi : i < es.length := by
      rcases Nat.lt_or_ge i es.length with h' | h'
      · exact h'
      · simp [List.getElem?_eq_none h'] at h1
    have hj : j < k := by
      rcases Nat.lt_or_ge j ei.length with h' | h'
      · omega
      · simp [List.getElem?_eq_none h'] at h2
    have hlt : i * k + j < es.length * k := by
      have : i * k + k ≤ es.length * k := by rw [← Nat.succ_mul]; exact Nat.mul_le_mul_right k hi
      omega
    refine ⟨u, ?_, h4⟩
    rw [hget _ hlt]
    simp [f, h3]

theorem elems_sound {s : AS} {x : AV} {es : List (List AV)} {k : Nat} (h : elemsOf s x = some es) (hk : ∀ c ∈ es, c.length = k) {ρ : Env} {w : World} (hr : HR w ρ s.L) {v : Value} (hv : VR w ρ v x) : ∃ news, Shown P w ρ v k es news := by
  have hl : ∀ (i : Nat) e, es[i]? = some e → e.length = k := fun i e he => hk e (List.mem_of_getElem? he)
  unfold elemsOf at h
  split at h
  · cases h
    cases hv with
    | pr hp =>
      cases hp with
      | slnil a c => exact ⟨[], shown_nil w ρ k a c⟩
      | sl b o k' n c es cv hn h0 hc hk' ho hlt hll hcell hread =>
        have hkk : k' = k := by
          have he : es[0]? = some es[0] := List.getElem?_eq_getElem (by omega)
          rw [← hll _ _ he, hl _ _ he]
        subst hkk
        exact shown_at hn hl fun i j ei x h1 h2 => ⟨cv i j, by rw [← Nat.add_assoc]; exact hcell i j ei x h1 h2, hread i j ei x h1 h2⟩
  · rename_i r k' off n
    split at h
    · rename_i k'' es0 hL
      split at h
      · rename_i hc
        cases h
        obtain ⟨rfl, hle⟩ := hc
        cases hv with
        | pr hp => cases hp
        | osnil =>
          simp only [List.take_zero]
          exact ⟨[], shown_nil w ρ k _ _⟩
        | osz =>
          simp only [List.take_zero]
          exact ⟨[], shown_nil w ρ k _ _⟩
        | os r k' off n c b base cs e fz hρ hcn hb hsz =>
          obtain ⟨h0, hll, hd⟩ := hr.ent r _ _ hL hρ
          rcases hd with ⟨hd, _⟩ | ⟨b', base', c', ty, g1, g2, g3, g4⟩
          · cases hd
          · cases g1
            by_cases hn0 : n = 0
            · subst hn0
              simp only [List.take_zero]
              exact ⟨[], shown_nil w ρ k _ _⟩
            · have hkk : k' = k := by
                have he : es0[off]? = some (es0[off]'(by omega)) := List.getElem?_eq_getElem (by omega)
                have h1 := hll _ _ he
                have h2 := hl 0 _ (by rw [List.getElem?_take_of_lt (by omega), List.getElem?_drop]; exact he)
                omega
              subst hkk
              refine shown_at (by simp; omega) hl fun i j ei x h1 h2 => ?_
              have hi : i < n := by
                rcases Nat.lt_or_ge i n with h' | h'
                · exact h'
                · rw [List.getElem?_eq_none (by simp; omega)] at h1; cases h1
              rw [List.getElem?_take_of_lt hi, List.getElem?_drop] at h1
              obtain ⟨u, h3, h4⟩ := g4 _ j ei x h1 h2
              refine ⟨u, ?_, h4⟩
              simp only [World.cell?, g2]
              rw [show base + off * k' + (i * k' + j) = base + (off + i) * k' + j by rw [Nat.add_mul]; omega]
              simpa using h3
      · cases h
    · cases h
  · cases h
    have := val_inv hv; subst this
    exact ⟨[], shown_nil w ρ k _ _⟩
  · cases h

def sAppend (T : TypeId → Ty) (fx : List Nat) (t : TypeId) (x y : AV) (s : AS) (K : AV → AS → Prop) : Prop :=
  match (T t).kd with
  | .slice e => (T e).kd.ok = true ∧ 0 < (T e).size ∧ ∃ news, elemsOf s y = some news ∧ (∀ c ∈ news, c.length = (T e).size ∧ c.all AV.one = true ∧ c.all AV.pure = true) ∧
    match x with
    | .os r k off n => (r ∉ fx) ∧ k = (T e).size ∧ ∃ es, s.L[r]? = some (.vec k es) ∧ off + n = es.length ∧ (n + news.length) * (T e).bytes ≤ 140737488355328 ∧ n + news.length ≤ 9223372036854775807 ∧
      K (.os r k 0 (n + news.length)) { s.kill r with L := (s.kill r).L.set r (.vec k (es.drop off ++ news)) }
    | .val (.slice none 0 0) => news.length * (T e).bytes ≤ 140737488355328 ∧ news.length ≤ 9223372036854775807 ∧ K (.os s.L.length (T e).size 0 news.length) (s.push (.vec (T e).size news))
    | _ => False
  | _ => False

theorem shown_one {w : World} {ρ : Env} {v : Value} {k : Nat} {es : List (List AV)} {news : List Value} (h : Shown P w ρ v k es news) (hc : ∀ c ∈ es, c.length = k ∧ c.all AV.one = true) : ∀ u ∈ news, u.oneCell' = true := by
  intro u hu
  obtain ⟨j, hj, rfl⟩ := List.mem_iff_getElem.1 hu
  have hj' := hj
  rw [h.len] at hj'
  have hk : 0 < k := by
    rcases Nat.eq_zero_or_pos k with h | h
    · subst h; simp at hj'
    · exact h
  have hi : j / k < es.length := Nat.div_lt_of_lt_mul (by rw [Nat.mul_comm]; exact hj')
  have hm : j % k < k := Nat.mod_lt _ hk
  have he := List.getElem?_eq_getElem hi
  have hcl := hc _ (List.mem_of_getElem? he)
  obtain ⟨u, h1, h2⟩ := h.get _ (j % k) _ _ he (List.getElem?_eq_getElem (by omega))
  rw [show j / k * k + j % k = j by rw [Nat.mul_comm]; exact Nat.div_add_mod j k] at h1
  rw [List.getElem?_eq_getElem hj] at h1
  cases h1
  exact one_sound (ρ := ρ) (.pr h2) ((List.all_eq_true.1 hcl.2) _ (List.getElem_mem _))

/-- An append where there is room. -/
theorem run_append_at (hT : TTOk P T) {t ty e : TypeId} (ht : P.underlying t = some (.slice e)) (hok : (T e).kd.ok = true) {w : World} {b : Option Addr} {n cp m : Nat} {v : Value} {news : List Value} (hv : ∃ b2 c2, v = .slice b2 m c2)
    (hf : (Builtin.firstCells (T e).size m v).run P w = .ok news.toArray w) (hroom : n + m ≤ cp) {w' : World}
    (hst : match b with | some a => (storeCells (a.add (n * (T e).size)) news).run P w = .ok () w' | none => w' = w) :
    (Builtin.append_ #[t, t] ty #[.slice b n cp, v]).run P w = .ok (.slice b (n + m) cp) w' := by
  obtain ⟨b2, c2, rfl⟩ := hv
  cases b with
  | none =>
    simp only at hst
    subst hst
    simp [Builtin.append_, run_underlying ht, run_size hT hok, Builtin.lenOf, hroom, hf]
  | some a =>
    simp only at hst
    simp [Builtin.append_, run_underlying ht, run_size hT hok, Builtin.lenOf, hroom, hf, hst]

/-- Old cells, then new ones, then room. -/
theorem row_app {w : World} {ρ : Env} {k : Nat} {es1 es2 : List (List AV)} {olds news rest : List Value} (h1 : olds.length = es1.length * k) (h2 : news.length = es2.length * k)
    (g1 : ∀ (i j : Nat) ei x, es1[i]? = some ei → ei[j]? = some x → ∃ u, olds[i * k + j]? = some u ∧ PR w (no ρ) u x)
    (g2 : ∀ (i j : Nat) ei x, es2[i]? = some ei → ei[j]? = some x → ∃ u, news[i * k + j]? = some u ∧ PR w (no ρ) u x) : RowIs w ρ (olds ++ news ++ rest).toArray 0 k (es1 ++ es2) where
  fits := by simp [h1, h2, Nat.add_mul]
  get i j ei x a b := by
    simp only [Nat.zero_add, List.getElem?_toArray]
    by_cases hi : i < es1.length
    · rw [List.getElem?_append_left hi] at a
      obtain ⟨u, h3, h4⟩ := g1 i j ei x a b
      have hlt : i * k + j < olds.length := by
        rcases Nat.lt_or_ge (i * k + j) olds.length with h' | h'
        · exact h'
        · rw [List.getElem?_eq_none h'] at h3; cases h3
      exact ⟨u, by rw [List.append_assoc, List.getElem?_append_left hlt]; exact h3, h4⟩
    · rw [List.getElem?_append_right (by omega)] at a
      obtain ⟨u, h3, h4⟩ := g2 _ j ei x a b
      have hlt : (i - es1.length) * k + j < news.length := by
        rcases Nat.lt_or_ge ((i - es1.length) * k + j) news.length with h' | h'
        · exact h'
        · rw [List.getElem?_eq_none h'] at h3; cases h3
      have he : i * k + j = olds.length + ((i - es1.length) * k + j) := by
        have hmul : es1.length * k ≤ i * k := Nat.mul_le_mul_right k (by omega)
        rw [h1, Nat.sub_mul]
        omega
      refine ⟨u, ?_, h4⟩
      rw [List.append_assoc, List.getElem?_append_right (by omega), he, show olds.length + ((i - es1.length) * k + j) - olds.length = (i - es1.length) * k + j by omega, List.getElem?_append_left hlt]
      exact h3

/-- An append to a beginning of an own row: what lay behind is not told any more. -/
def sAppendP (T : TypeId → Ty) (fx : List Nat) (t : TypeId) (x y : AV) (s : AS) (K : AV → AS → Prop) : Prop :=
  match (T t).kd with
  | .slice e => (T e).kd.ok = true ∧ 0 < (T e).size ∧ ∃ news, elemsOf s y = some news ∧ (∀ c ∈ news, c.length = (T e).size ∧ c.all AV.one = true ∧ c.all AV.pure = true) ∧
    match x with
    | .os r k off n => (r ∉ fx) ∧ k = (T e).size ∧ ∃ es, s.L[r]? = some (.vec k es) ∧ off + n ≤ es.length ∧ (n + news.length) * (T e).bytes ≤ 140737488355328 ∧ n + news.length ≤ 9223372036854775807 ∧
      K (.os r k 0 (n + news.length)) { s.kill r with L := (s.kill r).L.set r (.vec k ((es.take (off + n)).drop off ++ news)) }
    | .val (.slice none 0 0) => news.length * (T e).bytes ≤ 140737488355328 ∧ news.length ≤ 9223372036854775807 ∧ K (.os s.L.length (T e).size 0 news.length) (s.push (.vec (T e).size news))
    | _ => False
  | _ => False
theorem sAppendP_of {T : TypeId → Ty} {fx : List Nat} {t : TypeId} {x y : AV} {s : AS} {K : AV → AS → Prop} (h : sAppend T fx t x y s K) : sAppendP T fx t x y s K := by
  unfold sAppend at h
  unfold sAppendP
  split at h
  · obtain ⟨h1, h2, news, h3, h4, h5⟩ := h
    refine ⟨h1, h2, news, h3, h4, ?_⟩
    split at h5
    · obtain ⟨g1, g2, es, g3, g4, g5, g6, g7⟩ := h5
      exact ⟨g1, g2, es, g3, by omega, g5, g6, by rw [List.take_of_length_le (by omega)]; exact g7⟩
    · exact h5
    · exact h5
  · exact h
/-- Either of both. -/
def sApp (T : TypeId → Ty) (fx : List Nat) (pre : Bool) (t : TypeId) (x y : AV) (s : AS) (K : AV → AS → Prop) : Prop :=
  match pre with
  | false => sAppend T fx t x y s K
  | true => sAppendP T fx t x y s K
theorem EntR.take {w : World} {ρ : Env} {l : Option (Nat × Nat)} {k : Nat} {es : List (List AV)} (h : EntR w ρ l (.vec k es)) (m : Nat) : EntR w ρ l (.vec k (es.take m)) := by
  obtain ⟨h1, h2, h3⟩ := h
  have hg : ∀ (i : Nat) e, (es.take m)[i]? = some e → es[i]? = some e := fun i e he => by
    rw [List.getElem?_take] at he
    split at he
    · exact he
    · cases he
  refine ⟨h1, fun i e he => h2 i e (hg i e he), ?_⟩
  rcases h3 with ⟨h3, h4⟩ | ⟨b, base, c, e, h3, h4, h5, h6⟩
  · exact .inl ⟨h3, by rw [h4]; simp⟩
  · refine .inr ⟨b, base, c, e, h3, h4, ?_, fun i j ei x a b => h6 i j ei x (hg i ei a) b⟩
    have := Nat.mul_le_mul_right k (show (es.take m).length ≤ es.length by rw [List.length_take]; omega)
    omega

theorem sAppendP_sound (hT : TTOk P T) {fx : List Nat} {t ty : TypeId} {x y : AV} {s : AS} {K : AV → AS → Prop} (h : sAppendP T fx t x y s K) {ρ : Env} {a : Act} {w : World} (hr : Rel ρ s a w) {u u' : Value} (hu : VR w ρ u x) (hu' : VR w ρ u' y) :
    ∃ v w' r s' ρ', (Builtin.append_ #[t, t] ty #[u, u']).run P w = .ok v w' ∧ K r s' ∧ Rel ρ' s' a w' ∧ VR w' ρ' v r ∧ St fx ρ w ρ' w' := by
  unfold sAppendP at h
  split at h
  · rename_i e hk
    obtain ⟨hok, hpos, es2, hes2, hall, h⟩ := h
    obtain ⟨i, d, z, h1, h2, h3, h4, h5, h6, h7, h8⟩ := hT.ty t (by rw [hk]; rfl)
    rw [hk] at h3; simp only [KdOk] at h3; subst h3
    obtain ⟨i', d', z', g1, g2, g3, g4, g5, g6, g7, g8⟩ := hT.ty e hok
    obtain ⟨news, hsh⟩ := elems_sound (P := P) hes2 (fun c hc => (hall c hc).1) hr.hr hu'
    have hone := shown_one hsh (fun c hc => ⟨(hall c hc).1, (hall c hc).2.1⟩)
    have hel2 : ∀ (i : Nat) c, es2[i]? = some c → c.length = (T e).size := fun i c hc => (hall c (List.mem_of_getElem? hc)).1
    have hzk : z'.cells.size = (T e).size := by
      have : z'.cells.toList.length = (T e).size := by rw [g7]; exact g8
      simpa using this
    -- a new row made out of old cells and new ones
    have grow : ∀ (es1 : List (List AV)) (olds : List Value) (cap : Nat), olds.length = es1.length * (T e).size → es1.length + es2.length ≤ cap →
        (∀ (i j : Nat) ei x, es1[i]? = some ei → ei[j]? = some x → ∃ u, olds[i * (T e).size + j]? = some u ∧ PR w (no ρ) u x) →
        RowIs w.drew ρ (olds.toArray ++ news.toArray ++ Builtin.zeroCells z'.cells (cap - (es1.length + es2.length))) 0 (T e).size (es1 ++ es2) ∧
        cap * (T e).size ≤ (olds.toArray ++ news.toArray ++ Builtin.zeroCells z'.cells (cap - (es1.length + es2.length))).size := fun es1 olds cap ho hcap hget => by
      have hg : Grow w w.drew := Grow.drew
      refine ⟨?_, ?_⟩
      · have := row_app (w := w.drew) (ρ := ρ) (rest := (Builtin.zeroCells z'.cells (cap - (es1.length + es2.length))).toList) ho hsh.len
          (fun i j ei x a b => let ⟨u, p, q⟩ := hget i j ei x a b; ⟨u, p, q.mono (fun b hb _ => hg.same b hb (fun h => h)) hg.le (fun _ _ h => h)⟩)
          (fun i j ei x a b => let ⟨u, p, q⟩ := hsh.get i j ei x a b; ⟨u, p, q.mono (fun b hb _ => hg.same b hb (fun h => h)) hg.le (fun _ _ h => h)⟩)
        have e1 : (olds ++ news ++ (Builtin.zeroCells z'.cells (cap - (es1.length + es2.length))).toList).toArray = olds.toArray ++ news.toArray ++ Builtin.zeroCells z'.cells (cap - (es1.length + es2.length)) := by simp
        rw [e1] at this
        exact this
      · simp only [Array.size_append, List.size_toArray, size_zeroCells, hzk, ho, hsh.len, ← Nat.add_mul]
        exact Nat.mul_le_mul_right _ (by omega)
    split at h
    · rename_i r k off n
      obtain ⟨hfx, rfl, es0, hL, hoff0, hby, h63, hK⟩ := h
      have hent : ∀ l, ρ.l[r]? = some l → EntR w ρ l (.vec (T e).size (es0.take (off + n))) := fun l hl => (hr.hr.ent r _ l hL hl).take _
      have hoff : off + n = (es0.take (off + n)).length := by rw [List.length_take]; omega
      generalize es0.take (off + n) = es at *
      generalize hkk : (T e).size = k at *
      have hval := hsh.val
      have hdrop : ∀ (i : Nat) c, (es.drop off ++ es2)[i]? = some c → c.length = k := fun i c hc => by
        obtain ⟨_, hl, _⟩ := hent (ρ.l[r]'(by rw [hr.hr.len]; exact (List.getElem?_eq_some_iff.1 hL).1)) (List.getElem?_eq_getElem _)
        by_cases hi : i < (es.drop off).length
        · rw [List.getElem?_append_left hi, List.getElem?_drop] at hc; exact hl _ _ hc
        · rw [List.getElem?_append_right (by omega)] at hc; exact hel2 _ _ hc
      have hlen : (es.drop off ++ es2).length = n + es2.length := by simp; omega
      -- the append makes a new block
      have fresh : ∀ (l0 : Option (Nat × Nat)) (olds : List Value) (old : Nat), ρ.l[r]? = some l0 → olds.length = n * k → n + es2.length > old →
          (∀ (i j : Nat) ei x, (es.drop off)[i]? = some ei → ei[j]? = some x → ∃ u, olds[i * k + j]? = some u ∧ PR w (no ρ) u x) →
          ∃ r' s' ρ', K r' s' ∧ Rel ρ' s' a (w.drew.alloc (.cells (olds.toArray ++ news.toArray ++ Builtin.zeroCells z'.cells (grownCap w (n + es2.length) old e - (n + es2.length))) e)) ∧
            VR (w.drew.alloc (.cells (olds.toArray ++ news.toArray ++ Builtin.zeroCells z'.cells (grownCap w (n + es2.length) old e - (n + es2.length))) e)) ρ' (.slice (some ⟨w.heap.size, 0, none⟩) (n + es2.length) (grownCap w (n + es2.length) old e)) r' ∧
            St fx ρ w ρ' (w.drew.alloc (.cells (olds.toArray ++ news.toArray ++ Builtin.zeroCells z'.cells (grownCap w (n + es2.length) old e - (n + es2.length))) e)) := fun l0 olds old hρ ho _ hget => by
        have hn1 : (es.drop off).length = n := by simp; omega
        have hge := grownCap_ge w (n + es2.length) old e
        obtain ⟨q1, q2⟩ := grow (es.drop off) olds (grownCap w (n + es2.length) old e) (by rw [hn1]; exact ho) (by rw [hn1]; exact hge) hget
        rw [hn1] at q1 q2
        generalize hc : olds.toArray ++ news.toArray ++ Builtin.zeroCells z'.cells (grownCap w (n + es2.length) old e - (n + es2.length)) = c at *
        have hg : Grow w (w.drew.alloc (.cells c e)) := Fr.trans (o' := fun _ => False) Grow.drew (Fr.alloc _ _ _) (fun _ h => False.elim h)
        have hnew := heap_alloc_new w.drew (.cells c e)
        obtain ⟨p1, p2⟩ := hr.revec (fx := fx) hfx hρ (hg.fr _) (fun b hb _ => hg.same b hb (fun h => h)) (l' := some (w.heap.size, 0)) (fun g base hh => by cases hh; exact .inl (Nat.le_refl _)) (.vec k (es.drop off ++ es2))
          fun keepP => ⟨hpos, hdrop, .inr ⟨w.heap.size, 0, c, e, rfl, hnew, by have := q1.fits; omega, fun i j ei x a b => let ⟨u, p, q⟩ := q1.get i j ei x a b; ⟨u, p, keepP _ _ (q.mono (w' := w) (fun _ _ _ => rfl) (Nat.le_refl _) (fun _ _ h => h))⟩⟩⟩
        refine ⟨_, _, _, hK, p1, ?_, p2⟩
        have hrl : r < ρ.l.length := by rw [hr.hr.len]; exact (List.getElem?_eq_some_iff.1 hL).1
        have := VR.os (w := w.drew.alloc (.cells c e)) (ρ := ρ.at r (some (w.heap.size, 0))) r k 0 (n + es2.length) (grownCap w (n + es2.length) old e) w.heap.size 0 c e (0, 0)
          (by simp only [Env.at]; rw [List.getElem?_set_self hrl]) hge hnew (by simpa using q2)
        simpa using this
      cases hu with
      | pr hp => cases hp
      | osnil _ _ hρ =>
        obtain ⟨h0, hl, hd⟩ := hent _ hρ
        rcases hd with ⟨_, rfl⟩ | ⟨b, base, c, ty', e1, _⟩
        · simp at hoff
          by_cases hm : es2.length = 0
          · have hes0 : es2 = [] := List.length_eq_zero_iff.1 hm
            subst hes0
            have hn0 : news = [] := List.length_eq_zero_iff.1 (by rw [hsh.len]; simp)
            subst hn0
            have hrun := run_append_at (P := P) hT (ty := ty) h2 hok (b := none) (n := 0) (cp := 0) (m := 0) hval (by rw [hkk]; exact hsh.run) (by omega) (w' := w) rfl
            obtain ⟨p1, p2⟩ := hr.revec (fx := fx) hfx hρ Fr.refl (fun b hb _ => rfl) (l' := none) (fun g base hh => by cases hh) (.vec k (List.drop 0 [] ++ []))
              fun keepP => ⟨hpos, by simp, .inl ⟨rfl, by simp⟩⟩
            refine ⟨_, _, _, _, _, hrun, hK, p1, ?_, p2⟩
            exact .osnil r k (by simp only [Env.at]; rw [List.getElem?_set_self (by rw [hr.hr.len]; exact (List.getElem?_eq_some_iff.1 hL).1)])
          · obtain ⟨ad, c, hv, hcell⟩ := hsh.at_ (by omega)
            subst hv
            have hrun := run_append_nil (P := P) w t ty e i' z' h2 g1 g6 ad es2.length c news (by rw [g4]; exact hsh.len) hcell (by omega) (by omega) (by rw [Nat.zero_add] at hby; rw [g5]; omega)
            obtain ⟨r', s', ρ', q1, q2, q3, q4⟩ := fresh none [] 0 hρ (by simp) (by omega) (by simp)
            exact ⟨_, _, _, _, _, hrun, q1, by simpa using q2, by simpa using q3, by simpa using q4⟩
        · cases e1
      | osz r k off a' b base hρ =>
        obtain ⟨h0, hl, hd⟩ := hent _ hρ
        rcases hd with ⟨hd, _⟩ | ⟨b', base', c, ty', e1, e2, e3, e4⟩
        · cases hd
        · cases e1
          by_cases hm : es2.length = 0
          · have hes0 : es2 = [] := List.length_eq_zero_iff.1 hm
            subst hes0
            have hn0 : news = [] := List.length_eq_zero_iff.1 (by rw [hsh.len]; simp)
            subst hn0
            have hrun := run_append_at (P := P) hT (ty := ty) h2 hok (b := a') (n := 0) (cp := 0) (m := 0) hval (by rw [hkk]; exact hsh.run) (by omega) (w' := w) (by cases a' <;> simp [storeCells])
            have hdn : es.drop off = [] := List.drop_eq_nil_of_le (by omega)
            obtain ⟨p1, p2⟩ := hr.revec (fx := fx) hfx hρ Fr.refl (fun b hb _ => rfl) (l' := some (b, base)) (fun g base' hh => by cases hh; exact .inr ⟨base, rfl⟩) (.vec k (es.drop off ++ []))
              fun keepP => ⟨hpos, by rw [hdn]; simp, .inr ⟨b, base, c, ty', rfl, e2, by rw [hdn]; simp; omega, by rw [hdn]; simp⟩⟩
            refine ⟨_, _, _, _, _, hrun, hK, p1, ?_, p2⟩
            exact .osz r k 0 a' b base (by simp only [Env.at]; rw [List.getElem?_set_self (by rw [hr.hr.len]; exact (List.getElem?_eq_some_iff.1 hL).1)])
          · obtain ⟨ad, c, hv, hcell⟩ := hsh.at_ (by omega)
            subst hv
            have hdn : es.drop off = [] := List.drop_eq_nil_of_le (by omega)
            obtain ⟨r', s', ρ', q1, q2, q3, q4⟩ := fresh (some (b, base)) [] 0 hρ (by simp) (by omega) (by rw [hdn]; simp)
            cases a' with
            | none =>
              have hrun := run_append_nil (P := P) w t ty e i' z' h2 g1 g6 ad es2.length c news (by rw [g4]; exact hsh.len) hcell (by omega) (by omega) (by rw [Nat.zero_add] at hby; rw [g5]; omega)
              exact ⟨_, _, _, _, _, hrun, q1, by simpa using q2, by simpa using q3, by simpa using q4⟩
            | some a' =>
              have hrun := run_append_grow (P := P) w t ty e i' z' h2 g1 g6 a' 0 0 [] (by simp) (by simp) ad es2.length c news (by rw [g4]; exact hsh.len) hcell (by omega) (by omega) (growslice_fits (by omega) (by rw [g5]; omega))
              exact ⟨_, _, _, _, _, hrun, q1, by simpa using q2, by simpa using q3, by simpa using q4⟩
      | os r k off n cp b base cs ety fz hρ hcp hb hsz =>
        obtain ⟨h0, hl, hd⟩ := hent _ hρ
        rcases hd with ⟨hd, _⟩ | ⟨b', base', c, ty', e1, e2, e3, e4⟩
        · cases hd
        · cases e1
          rw [e2] at hb
          cases hb
          by_cases hroom : n + es2.length ≤ cp
          · have hmul : (off + (n + es2.length)) * k ≤ (off + cp) * k := Nat.mul_le_mul_right k (by omega)
            have hoffk : base + off * k + n * k = base + (off + n) * k := by rw [Nat.add_mul]; omega
            have hfit : base + off * k + n * k + news.length ≤ cs.size := by
              rw [hsh.len]
              rw [show (off + (n + es2.length)) * k = off * k + n * k + es2.length * k by simp only [Nat.add_mul]; omega] at hmul
              omega
            have hst := run_storeCells_at P b (base + off * k + n * k) _ news 0 cs w e2 (by simpa using hfit) hone
            simp only [Nat.add_zero] at hst
            have hrun := run_append_at (P := P) hT (ty := ty) h2 hok (b := some ⟨b, base + off * k, none⟩) (n := n) (cp := cp) (m := es2.length) hval (by rw [hkk]; exact hsh.run) hroom (w' := w.setRow b (stored cs (base + off * k + n * k) news)) (by show (storeCells ((⟨b, base + off * k, none⟩ : Addr).add (n * (T e).size)) news).run P w = _; rw [add_off, hkk]; exact hst)
            have hf : Fr (own ρ) w (w.setRow b (stored cs (base + off * k + n * k) news)) := .setRow e2 (.l hρ) (stored_size hfit)
            obtain ⟨p1, p2⟩ := hr.revec (fx := fx) hfx hρ hf (fun b'' hb'' hn => heap_setRow_other fun e' => hn base (by rw [e'])) (l' := some (b, base + off * k)) (fun g base' hh => by cases hh; exact .inr ⟨base, rfl⟩) (.vec k (es.drop off ++ es2))
              fun keepP => ⟨hpos, hdrop, .inr ⟨b, base + off * k, _, _, rfl, setRow_heap w b cs _ _ _ e2, by rw [stored_size hfit, hlen, Nat.add_mul]; have := hsh.len; omega, fun i j ei x a1 b1 => by
                have hj : j < k := by
                  have := hdrop _ _ a1
                  rcases Nat.lt_or_ge j ei.length with h' | h'
                  · omega
                  · simp [List.getElem?_eq_none h'] at b1
                rw [stored_get hfit]
                by_cases hi : i < (es.drop off).length
                · rw [List.getElem?_append_left hi, List.getElem?_drop] at a1
                  obtain ⟨u, q1, q2⟩ := e4 _ j ei x a1 b1
                  have hin : i < n := by simp at hi; omega
                  have : i * k + k ≤ n * k := by rw [← Nat.succ_mul]; exact Nat.mul_le_mul_right k hin
                  rw [if_neg (by omega)]
                  refine ⟨u, ?_, keepP _ _ q2⟩
                  rw [← q1]; congr 1; rw [Nat.add_mul]; omega
                · rw [List.getElem?_append_right (by omega)] at a1
                  obtain ⟨u, q1, q2⟩ := hsh.get _ j ei x a1 b1
                  have hn1 : (es.drop off).length = n := by simp; omega
                  rw [hn1] at a1 q1 hi
                  have hlt : (i - n) * k + j < news.length := by
                    rcases Nat.lt_or_ge ((i - n) * k + j) news.length with h' | h'
                    · exact h'
                    · rw [List.getElem?_eq_none h'] at q1; cases q1
                  have hmulin : n * k ≤ i * k := Nat.mul_le_mul_right k (by omega)
                  have hsub : (i - n) * k = i * k - n * k := Nat.sub_mul _ _ _
                  rw [if_pos (by omega)]
                  refine ⟨u, ?_, keepP _ _ q2⟩
                  rw [← q1]; congr 1; omega⟩⟩
            refine ⟨_, _, _, _, _, hrun, hK, p1, ?_, p2⟩
            have hrl : r < ρ.l.length := by rw [hr.hr.len]; exact (List.getElem?_eq_some_iff.1 hL).1
            have := VR.os (w := w.setRow b (stored cs (base + off * k + n * k) news)) (ρ := ρ.at r (some (b, base + off * k))) r k 0 (n + es2.length) cp b (base + off * k) _ _ (0, 0)
              (by simp only [Env.at]; rw [List.getElem?_set_self hrl]) hroom (setRow_heap w b cs _ _ _ e2) (by rw [stored_size hfit]; rw [Nat.add_mul] at hsz; simp only [Nat.zero_add]; omega)
            simpa using this
          · -- it grows
            obtain ⟨olds, hso⟩ := shown_at (P := P) (w := w) (ρ := ρ) (b := b) (o := base + off * k) (k := k) (n := n) (c := cp) (es := es.drop off) (by simp; omega) (fun i c' hc' => by rw [List.getElem?_drop] at hc'; exact hl _ _ hc') fun i j ei x a1 b1 => by
              rw [List.getElem?_drop] at a1
              obtain ⟨u, q1, q2⟩ := e4 _ j ei x a1 b1
              refine ⟨u, ?_, q2⟩
              simp only [World.cell?, e2]
              rw [show base + off * k + (i * k + j) = base + (off + i) * k + j by rw [Nat.add_mul]; omega]
              simpa using q1
            have hn1 : (es.drop off).length = n := by simp; omega
            have holen : olds.length = n * k := by rw [hso.len, hn1]
            have hm : 0 < es2.length := by omega
            obtain ⟨ad, c2, hv, hcell⟩ := hsh.at_ hm
            subst hv
            have hocell : ∀ j u, olds[j]? = some u → w.cell? ((⟨b, base + off * k, none⟩ : Addr).add j) = some u := fun j u hj => by
              by_cases hn0 : n = 0
              · subst hn0
                simp at holen
                subst holen
                simp at hj
              · obtain ⟨ad', c', hv', hcell'⟩ := hso.at_ (by omega)
                cases hv'
                exact hcell' j u hj
            have hrun := run_append_grow (P := P) w t ty e i' z' h2 g1 g6 ⟨b, base + off * k, none⟩ n cp olds (by rw [g4]; exact holen) hocell ad es2.length c2 news (by rw [g4]; exact hsh.len) hcell (by omega) (by omega) (growslice_fits (by omega) (by rw [g5]; omega))
            obtain ⟨r', s', ρ', q1, q2, q3, q4⟩ := fresh (some (b, base)) olds cp hρ holen (by omega) hso.get
            exact ⟨_, _, _, _, _, hrun, q1, q2, q3, q4⟩
    · obtain ⟨hby, h63, hK⟩ := h
      have := val_inv hu; subst this
      have hval := hsh.val
      by_cases hm : es2.length = 0
      · have hes0 : es2 = [] := List.length_eq_zero_iff.1 hm
        subst hes0
        have hn0 : news = [] := List.length_eq_zero_iff.1 (by rw [hsh.len]; simp)
        subst hn0
        have hrun := run_append_at (P := P) hT (ty := ty) h2 hok (b := none) (n := 0) (cp := 0) (m := 0) hval hsh.run (by omega) (w' := w) rfl
        have hp := hr.push Fr.refl none (fun b base hh => by cases hh) (.vec (T e).size []) ⟨hpos, by simp, .inl ⟨rfl, rfl⟩⟩
        refine ⟨_, _, _, _, _, hrun, hK, hp, ?_, .push Fr.refl (fun b base hh => by cases hh)⟩
        exact .osnil _ _ (by rw [← hr.hr.len]; exact push_get _ _)
      · obtain ⟨ad, c, hv, hcell⟩ := hsh.at_ (by omega)
        subst hv
        have hrun := run_append_nil (P := P) w t ty e i' z' h2 g1 g6 ad es2.length c news (by rw [g4]; exact hsh.len) hcell (by omega) (by omega) (by rw [g5]; omega)
        have hge := grownCap_ge w es2.length 0 e
        obtain ⟨q1, q2⟩ := grow [] [] (grownCap w es2.length 0 e) (by simp) (by simpa using hge) (by simp)
        simp only [List.length_nil, Nat.zero_add, List.nil_append] at q1 q2
        have e0 : ([] : List Value).toArray ++ news.toArray ++ Builtin.zeroCells z'.cells (grownCap w es2.length 0 e - es2.length) = news.toArray ++ Builtin.zeroCells z'.cells (grownCap w es2.length 0 e - es2.length) := by simp
        rw [e0] at q1 q2
        obtain ⟨ρ', p1, p2, p3⟩ := hr.newVec (fx := fx) (w := w.drew) Grow.drew rfl _ e (T e).size es2.length (grownCap w es2.length 0 e) es2 hpos hel2 rfl hge q2 q1
        exact ⟨_, _, _, _, ρ', hrun, hK, p1, p3, p2⟩
    · cases h
  · cases h

theorem sAppend_sound (hT : TTOk P T) {fx : List Nat} {t ty : TypeId} {x y : AV} {s : AS} {K : AV → AS → Prop} (h : sAppend T fx t x y s K) {ρ : Env} {a : Act} {w : World} (hr : Rel ρ s a w) {u u' : Value} (hu : VR w ρ u x) (hu' : VR w ρ u' y) :
    ∃ v w' r s' ρ', (Builtin.append_ #[t, t] ty #[u, u']).run P w = .ok v w' ∧ K r s' ∧ Rel ρ' s' a w' ∧ VR w' ρ' v r ∧ St fx ρ w ρ' w' := sAppendP_sound hT (sAppendP_of h) hr hu hu'
theorem sApp_sound (hT : TTOk P T) {fx : List Nat} {pre : Bool} {t ty : TypeId} {x y : AV} {s : AS} {K : AV → AS → Prop} (h : sApp T fx pre t x y s K) {ρ : Env} {a : Act} {w : World} (hr : Rel ρ s a w) {u u' : Value} (hu : VR w ρ u x) (hu' : VR w ρ u' y) :
    ∃ v w' r s' ρ', (Builtin.append_ #[t, t] ty #[u, u']).run P w = .ok v w' ∧ K r s' ∧ Rel ρ' s' a w' ∧ VR w' ρ' v r ∧ St fx ρ w ρ' w' := by
  cases pre
  · exact sAppend_sound hT h hr hu hu'
  · exact sAppendP_sound hT h hr hu hu'

end

end Go.Pc

/- The abstract logic, sixth part: calls and contracts. -/
namespace Go.Pc
open Go

section
variable {P : Program} {T : TypeId → Ty}

/-- A call of function f enters its body. -/
def Enters (P : Program) (f : FuncId) : Prop := ∀ args w, (callFunc f args).run P w = .ok (.enter f args) w

theorem enters_of {f : FuncId} {fn : Func} (hf : P.funcs[f]? = some fn) (hn : (fn.name == "runtime.NumGoroutine") = false) (hb : fn.body.isNone = false) : Enters P f := fun args w => by
  simp only [callFunc, Sem.run_bind, run_program, Result.andThen_ok, hf, hn, hb, Bool.false_eq_true, if_false, Sem.run_pure]

/-- The contract of a function: called with such arguments and such own blocks, it returns; R tells the result and the own blocks behind the call. All other memory stays as it was. -/
def ACalls (P : Program) (f : FuncId) (args : List AV) (L0 : List OB) (fx : List Nat) (R : AV → List OB → Prop) : Prop :=
  Enters P f ∧ ∀ (ρ : Env) (w : World) (vs : Array Value), HR w ρ L0 → vs.size = args.length → (∀ (i : Nat) v x, vs[i]? = some v → args[i]? = some x → VR w ρ v x) →
    Calls P f vs w (fun e w' => ∃ v res L' ρ', e = .returned v ∧ R res L' ∧ L0.length ≤ L'.length ∧ VR w' ρ' v res ∧ HR w' ρ' L' ∧ St fx ρ w ρ' w')

theorem ACalls.mono {f : FuncId} {args : List AV} {L0 : List OB} {fx : List Nat} {R R' : AV → List OB → Prop} (h : ACalls P f args L0 fx R) (hh : ∀ r L, R r L → R' r L) : ACalls P f args L0 fx R' :=
  ⟨h.1, fun ρ w vs h1 h2 h3 => (h.2 ρ w vs h1 h2 h3).mono fun _ _ ⟨v, res, L', ρ', e, hr, g⟩ => ⟨v, res, L', ρ', e, hh _ _ hr, g⟩⟩

/-- A call in a body, with what comes behind it. -/
def ACall (P : Program) (fx : List Nat) (f : AV) (args : List AV) (s : AS) (K : AV → AS → Prop) : Prop :=
  ∀ (ρ : Env) (a : Act) (w : World) (vf : Value) (vs : Array Value), Rel ρ s a w → VR w ρ vf f → vs.size = args.length → (∀ (i : Nat) v x, vs[i]? = some v → args[i]? = some x → VR w ρ v x) →
    Out P (fun v w' => ∃ r s' ρ', K r s' ∧ Rel ρ' s' a w' ∧ VR w' ρ' v r ∧ St fx ρ w ρ' w') ((do let d ← Deferred.ofValue vf vs; invoke d.target d.args : Sem Next).run P w)

def OB.ren (σ : Nat → Nat) : OB → OB
  | .cells cs => .cells (cs.map (AV.ren σ))
  | .slab cs => .slab (cs.map (AV.ren σ))
  | .vec k es => .vec k es
  | .dead => .dead
  | .forest S items => .forest S items

def OB.filt (p : Nat → Bool) : OB → OB
  | .cells cs => .cells (cs.map (AV.filt p))
  | .slab cs => .slab (cs.map (AV.filt p))
  | o => o

theorem EntR.ren {w : World} {ρ ρ' : Env} {l : Option (Nat × Nat)} {o : OB} (h : EntR w ρ l o) (σ : Nat → Nat) (hσ : ∀ (r : Nat) l, ρ.l[r]? = some l → ρ'.l[σ r]? = some l) (ho : ∀ b, b < w.heap.size → no ρ' b → no ρ b) : EntR w ρ' l (o.ren σ) := by
  cases o with
  | dead => exact h
  | cells cs =>
    obtain ⟨b, c, e, h1, h2, h3, h4⟩ := h
    refine ⟨b, c, e, h1, h2, by simpa using h3, fun i v x h5 h6 => ?_⟩
    rw [List.getElem?_map] at h6
    cases hq : cs[i]? with
    | none => simp [hq] at h6
    | some y => simp [hq] at h6; subst h6; exact (h4 i v y h5 hq).ren σ hσ ho
  | slab cs =>
    rcases h with ⟨hz1, hz2⟩ | ⟨b, base0, c, e, h1, h2, h3, h4⟩
    · exact .inl ⟨hz1, by simpa using hz2⟩
    refine .inr ⟨b, base0, c, e, h1, h2, by simpa using h3, fun i v x h5 h6 => ?_⟩
    rw [List.getElem?_map] at h6
    cases hq : cs[i]? with
    | none => simp [hq] at h6
    | some y => simp [hq] at h6; subst h6; exact (h4 i v y h5 hq).ren σ hσ ho
  | vec k es =>
    obtain ⟨h0, hl, hd⟩ := h
    refine ⟨h0, hl, ?_⟩
    rcases hd with hd | ⟨b, base, c, e, h1, h2, h3, h4⟩
    · exact .inl hd
    · exact .inr ⟨b, base, c, e, h1, h2, h3, fun i j ei x h5 h6 => let ⟨v, h7, h8⟩ := h4 i j ei x h5 h6; ⟨v, h7, h8.mono (fun _ _ _ => rfl) (Nat.le_refl _) ho⟩⟩
  | forest S items => exact h

theorem EntR.unren {w : World} {ρ ρ' : Env} {l : Option (Nat × Nat)} {o : OB} (σ : Nat → Nat) (h : EntR w ρ l (o.ren σ)) (hσ : ∀ (r : Nat) l, ρ.l[σ r]? = some l → ρ'.l[r]? = some l) (ho : ∀ b, b < w.heap.size → no ρ' b → no ρ b) : EntR w ρ' l o := by
  cases o with
  | dead => exact h
  | cells cs =>
    obtain ⟨b, c, e, h1, h2, h3, h4⟩ := h
    refine ⟨b, c, e, h1, h2, by simpa using h3, fun i v x h5 h6 => ?_⟩
    exact VR.unren σ hσ ho x v (h4 i v _ h5 (by rw [List.getElem?_map, h6]; rfl))
  | slab cs =>
    rcases h with ⟨hz1, hz2⟩ | ⟨b, base0, c, e, h1, h2, h3, h4⟩
    · exact .inl ⟨hz1, by simpa using hz2⟩
    refine .inr ⟨b, base0, c, e, h1, h2, by simpa using h3, fun i v x h5 h6 => ?_⟩
    exact VR.unren σ hσ ho x v (h4 i v _ h5 (by rw [List.getElem?_map, h6]; rfl))
  | vec k es =>
    obtain ⟨h0, hl, hd⟩ := h
    refine ⟨h0, hl, ?_⟩
    rcases hd with hd | ⟨b, base, c, e, h1, h2, h3, h4⟩
    · exact .inl hd
    · exact .inr ⟨b, base, c, e, h1, h2, h3, fun i j ei x h5 h6 => let ⟨v, h7, h8⟩ := h4 i j ei x h5 h6; ⟨v, h7, h8.mono (fun _ _ _ => rfl) (Nat.le_refl _) ho⟩⟩
  | forest S items => exact h

/-- The names that a callee's own blocks have in the caller: the first ones are those that were handed over. -/
def nameIn (rs : List Nat) (m : Nat) (j : Nat) : Nat := rs.getD j (m + (j - rs.length))

/-- Handed over, and perhaps moved. -/
def movedBy (rs fxc : List Nat) : List Nat := (rs.zipIdx.filter fun p => !fxc.contains p.2).map (·.1)

/-- The caller's blocks behind the call. -/
def setAll (L : List OB) : List Nat → List OB → List OB
  | r :: rs, o :: os => setAll (L.set r o) rs os
  | _, _ => L

def setLocs (l : List (Option (Nat × Nat))) : List Nat → List (Option (Nat × Nat)) → List (Option (Nat × Nat))
  | r :: rs, o :: os => setLocs (l.set r o) rs os
  | _, _ => l

theorem setAll_len : ∀ (rs : List Nat) (os : List OB) (L : List OB), (setAll L rs os).length = L.length
  | [], _, L => by simp [setAll]
  | r :: rs, [], L => by simp [setAll]
  | r :: rs, o :: os, L => by simp [setAll, setAll_len rs os]

theorem setLocs_len : ∀ (rs : List Nat) (os : List (Option (Nat × Nat))) (L : List (Option (Nat × Nat))), (setLocs L rs os).length = L.length
  | [], _, L => by simp [setLocs]
  | r :: rs, [], L => by simp [setLocs]
  | r :: rs, o :: os, L => by simp [setLocs, setLocs_len rs os]

theorem setAll_out : ∀ (rs : List Nat) (os : List OB) (L : List OB) (r : Nat), r ∉ rs → (setAll L rs os)[r]? = L[r]?
  | [], _, L, r, _ => by simp [setAll]
  | r' :: rs, [], L, r, _ => by simp [setAll]
  | r' :: rs, o :: os, L, r, h => by
    simp only [List.mem_cons, not_or] at h
    rw [setAll, setAll_out rs os _ r h.2, List.getElem?_set_ne (fun e => h.1 e.symm)]

theorem setLocs_out : ∀ (rs : List Nat) (os : List (Option (Nat × Nat))) (L : List (Option (Nat × Nat))) (r : Nat), r ∉ rs → (setLocs L rs os)[r]? = L[r]?
  | [], _, L, r, _ => by simp [setLocs]
  | r' :: rs, [], L, r, _ => by simp [setLocs]
  | r' :: rs, o :: os, L, r, h => by
    simp only [List.mem_cons, not_or] at h
    rw [setLocs, setLocs_out rs os _ r h.2, List.getElem?_set_ne (fun e => h.1 e.symm)]

theorem setAll_in : ∀ (rs : List Nat) (os : List OB) (L : List OB) (j r : Nat), rs.Nodup → rs[j]? = some r → r < L.length → rs.length ≤ os.length → (setAll L rs os)[r]? = os[j]?
  | [], _, _, j, r, _, h, _, _ => by simp at h
  | r' :: rs, [], _, _, _, _, _, _, hl => by simp at hl
  | r' :: rs, o :: os, L, 0, r, hn, h, hr, hl => by
    simp at h
    subst h
    rw [List.nodup_cons] at hn
    rw [setAll, setAll_out rs os _ _ hn.1, List.getElem?_set_self hr]
    rfl
  | r' :: rs, o :: os, L, j + 1, r, hn, h, hr, hl => by
    rw [List.nodup_cons] at hn
    rw [setAll, setAll_in rs os _ j r hn.2 (by simpa using h) (by simpa using hr) (by simpa using hl)]
    rfl

theorem setLocs_in : ∀ (rs : List Nat) (os : List (Option (Nat × Nat))) (L : List (Option (Nat × Nat))) (j r : Nat), rs.Nodup → rs[j]? = some r → r < L.length → rs.length ≤ os.length → (setLocs L rs os)[r]? = os[j]?
  | [], _, _, j, r, _, h, _, _ => by simp at h
  | r' :: rs, [], _, _, _, _, _, _, hl => by simp at hl
  | r' :: rs, o :: os, L, 0, r, hn, h, hr, hl => by
    simp at h
    subst h
    rw [List.nodup_cons] at hn
    rw [setLocs, setLocs_out rs os _ _ hn.1, List.getElem?_set_self hr]
    rfl
  | r' :: rs, o :: os, L, j + 1, r, hn, h, hr, hl => by
    rw [List.nodup_cons] at hn
    rw [setLocs, setLocs_in rs os _ j r hn.2 (by simpa using h) (by simpa using hr) (by simpa using hl)]
    rfl

def AS.back (s : AS) (rs fxc : List Nat) (L' : List OB) : AS :=
  { tm := s.tm.map (AV.filt fun r => !(movedBy rs fxc).contains r),
    L := setAll (s.L.map (OB.filt fun r => !(movedBy rs fxc).contains r)) rs (L'.map (OB.ren (nameIn rs s.L.length))) ++ (L'.drop rs.length).map (OB.ren (nameIn rs s.L.length)) }

theorem mem_moved {rs fxc : List Nat} (hn : rs.Nodup) {j r : Nat} (hj : rs[j]? = some r) : r ∈ movedBy rs fxc ↔ j ∉ fxc := by
  simp only [movedBy, List.mem_map, List.mem_filter, Bool.not_eq_true', List.contains_eq_mem, decide_eq_false_iff_not]
  constructor
  · rintro ⟨⟨r', j'⟩, ⟨h1, h2⟩, h3⟩
    simp only at h3 h2
    subst h3
    have hj' := List.mem_zipIdx_iff_getElem?.1 h1
    simp only at hj'
    have h4 : j' < rs.length := (List.getElem?_eq_some_iff.1 hj').1
    have : j' = j := (List.getElem?_inj h4 hn).1 (hj'.trans hj.symm)
    rw [← this]
    exact h2
  · intro h
    exact ⟨(r, j), ⟨List.mem_zipIdx_iff_getElem?.2 hj, h⟩, rfl⟩

theorem not_moved {rs fxc : List Nat} {r : Nat} (h : r ∉ rs) : r ∉ movedBy rs fxc := by
  simp only [movedBy, List.mem_map, List.mem_filter]
  rintro ⟨⟨r', j'⟩, ⟨h1, _⟩, h3⟩
  simp only at h3
  subst h3
  exact h (List.mem_of_getElem? (List.mem_zipIdx_iff_getElem?.1 h1))

/-- THE RULE FOR A CALL. -/
theorem acall {fx : List Nat} {f : FuncId} {caps args argsC : List AV} {L0 : List OB} {fxc : List Nat} {R : AV → List OB → Prop} (h : ACalls P f args L0 fxc R) (s : AS) (rs : List Nat) (hn : rs.Nodup) (hlen : rs.length = L0.length)
    (hL : ∀ (j r : Nat) o, rs[j]? = some r → L0[j]? = some o → s.L[r]? = some (o.ren (nameIn rs s.L.length))) (hfx : ∀ j r : Nat, rs[j]? = some r → r ∈ fx → j ∈ fxc)
    (hargs : argsC ++ caps = args.map (AV.ren (nameIn rs s.L.length))) {K : AV → AS → Prop} (hK : ∀ res L', R res L' → L0.length ≤ L'.length → K (res.ren (nameIn rs s.L.length)) (s.back rs fxc L')) :
    ACall P fx (.fn f caps) argsC s K := by
  intro ρ a w vf vs hr hvf hvl hv
  obtain ⟨hent, hcalls⟩ := h
  cases hvf with
  | pr hp => cases hp
  | fn f cv _ hs hc =>
  simp only [Deferred.ofValue, Sem.run_bind, Sem.run_pure, Result.andThen_ok, invoke, Array.empty_append]
  rw [hent]
  simp only [Out]
  have hrlt : ∀ (j r : Nat), rs[j]? = some r → r < s.L.length := fun j r hj => by
    have hj' : j < rs.length := (List.getElem?_eq_some_iff.1 hj).1
    have := hL j r (L0[j]'(by omega)) hj (List.getElem?_eq_getElem _)
    exact (List.getElem?_eq_some_iff.1 this).1
  have hρl : ρ.l.length = s.L.length := hr.hr.len
  let lc : List (Option (Nat × Nat)) := rs.map fun r => ρ.l.getD r none
  let Tc : Nat → Prop := fun b => ∃ (j r : Nat) (S : Nat → Prop) (items : List (Value × AV)), rs[j]? = some r ∧ s.L[r]? = some (.forest S items) ∧ S b
  let ρc : Env := { l := lc, X := fun b => no ρ b ∧ ¬ ((∃ (r base : Nat), lc[r]? = some (some (b, base))) ∨ Tc b), T := Tc }
  have hTc : ∀ b, Tc b → ρ.T b := fun b ⟨_, r, S, items, _, h2, h3⟩ => hr.hr.t.sub r S items b h2 h3
  have hget : ∀ (j r : Nat), rs[j]? = some r → ∃ l, ρ.l[r]? = some l ∧ ρc.l[j]? = some l := fun j r hj => by
    have h1 : r < ρ.l.length := by rw [hρl]; exact hrlt j r hj
    refine ⟨ρ.l[r], List.getElem?_eq_getElem h1, ?_⟩
    simp only [ρc, lc, List.getElem?_map, hj, Option.map_some, List.getD_eq_getElem?_getD, List.getElem?_eq_getElem h1, Option.getD_some]
  have hnamelt : ∀ j, rs.length ≤ j → s.L.length ≤ nameIn rs s.L.length j := fun j hj => by
    simp only [nameIn, List.getD_eq_getElem?_getD, List.getElem?_eq_none hj, Option.getD_none]; omega
  have hnamein : ∀ (j r : Nat), rs[j]? = some r → nameIn rs s.L.length j = r := fun j r hj => by
    simp only [nameIn, List.getD_eq_getElem?_getD, hj, Option.getD_some]
  have hback : ∀ (j : Nat) l, ρ.l[nameIn rs s.L.length j]? = some l → ρc.l[j]? = some l := fun j l hl => by
    by_cases hj : j < rs.length
    · have hj' := List.getElem?_eq_getElem hj
      obtain ⟨l', h1, h2⟩ := hget j _ hj'
      rw [hnamein j _ hj', h1] at hl
      cases hl
      exact h2
    · have := hnamelt j (by omega)
      rw [List.getElem?_eq_none (by omega)] at hl
      cases hl
  have hlc : ∀ {j b base : Nat}, lc[j]? = some (some (b, base)) → ∃ r, rs[j]? = some r ∧ ρ.l[r]? = some (some (b, base)) := fun {j b base} hj => by
    simp only [lc, List.getElem?_map] at hj
    cases hq : rs[j]? with
    | none => simp [hq] at hj
    | some r =>
      obtain ⟨l, h1, h2⟩ := hget j r hq
      have : ρc.l[j]? = some (some (b, base)) := by simp only [ρc, lc, List.getElem?_map]; exact hj
      rw [h2] at this
      cases this
      exact ⟨r, rfl, h1⟩
  have hownc : ∀ b, own ρc b → own ρ b := fun b hb => by
    rcases hb with ⟨j, base, hj⟩ | hb
    · obtain ⟨r, _, h1⟩ := hlc hj
      exact .l h1
    · exact .inr (hTc b hb)
  have hnoc : ∀ b, no ρc b → no ρ b := fun b hb => by
    rcases hb with hb | hb
    · exact .inl (hownc b hb)
    · exact hb.1
  have hHR : HR w ρc L0 := by
    refine ⟨by simp [ρc, lc, hlen], fun b hb => ?_, fun b hb hx => hx.2 hb, fun j j' b base base' h1 h2 => ?_, fun j o l h1 h2 => ?_, ⟨fun b hb => hr.hr.t.lt b (hTc b hb), fun b j base hb hj => ?_, fun j S items b hj hS => ?_, fun j j' S S' items items' b hj hj' hS hS' => ?_⟩⟩
    · rcases hb.1 with hb | hb
      · exact own_lt hr.hr hb
      · exact hr.hr.xlt b hb
    · have hj : j < rs.length := by
        rcases Nat.lt_or_ge j rs.length with h' | h'
        · exact h'
        · rw [List.getElem?_eq_none (by simpa [ρc, lc] using h')] at h1; cases h1
      have hj' : j' < rs.length := by
        rcases Nat.lt_or_ge j' rs.length with h' | h'
        · exact h'
        · rw [List.getElem?_eq_none (by simpa [ρc, lc] using h')] at h2; cases h2
      obtain ⟨l, p1, p2⟩ := hget j _ (List.getElem?_eq_getElem hj)
      obtain ⟨l', q1, q2⟩ := hget j' _ (List.getElem?_eq_getElem hj')
      rw [h1] at p2; cases p2
      rw [h2] at q2; cases q2
      have := hr.hr.inj _ _ _ _ _ p1 q1
      exact (List.getElem?_inj hj hn).1 (by rw [List.getElem?_eq_getElem hj, List.getElem?_eq_getElem hj', this])
    · have hj : j < rs.length := by
        rcases Nat.lt_or_ge j rs.length with h' | h'
        · exact h'
        · rw [List.getElem?_eq_none (by omega)] at h1; cases h1
      obtain ⟨l', p1, p2⟩ := hget j _ (List.getElem?_eq_getElem hj)
      rw [h2] at p2; cases p2
      exact EntR.unren (nameIn rs s.L.length) (hr.hr.ent _ _ _ (hL j _ o (List.getElem?_eq_getElem hj) h1) p1) hback (fun b _ hb => hnoc b hb)
    · obtain ⟨r, _, h1⟩ := hlc hj
      exact hr.hr.t.dl b r base (hTc b hb) h1
    · have hj' : j < rs.length := by have := (List.getElem?_eq_some_iff.1 hj).1; omega
      exact ⟨j, _, S, items, List.getElem?_eq_getElem hj', hL j _ _ (List.getElem?_eq_getElem hj') hj, hS⟩
    · have k1 : j < rs.length := by have := (List.getElem?_eq_some_iff.1 hj).1; omega
      have k2 : j' < rs.length := by have := (List.getElem?_eq_some_iff.1 hj').1; omega
      have := hr.hr.t.dis _ _ S S' items items' b (hL j _ _ (List.getElem?_eq_getElem k1) hj) (hL j' _ _ (List.getElem?_eq_getElem k2) hj') hS hS'
      exact (List.getElem?_inj k1 hn).1 (by rw [List.getElem?_eq_getElem k1, List.getElem?_eq_getElem k2, this])
  have hargl : argsC.length + caps.length = args.length := by
    have := congrArg List.length hargs
    simpa using this
  refine (hcalls ρc w (vs ++ cv) hHR (by simp; omega) fun i v x h1 h2 => ?_).mono fun e w' ⟨v, res, L', ρ', he, hR, hle, hvr, hhr, hst⟩ => ?_
  · have h3 : (argsC ++ caps)[i]? = some (x.ren (nameIn rs s.L.length)) := by rw [hargs, List.getElem?_map, h2]; rfl
    refine VR.unren _ hback (fun b _ hb => hnoc b hb) x v ?_
    by_cases hi : i < vs.size
    · rw [Array.getElem?_append_left hi] at h1
      rw [List.getElem?_append_left (by omega)] at h3
      exact hv i v _ h1 h3
    · rw [Array.getElem?_append_right (by omega)] at h1
      rw [List.getElem?_append_right (by omega)] at h3
      rw [← hvl] at h3
      exact hc _ v _ h1 h3
  · -- behind the call
    refine ⟨v, he, res.ren (nameIn rs s.L.length), s.back rs fxc L', { l := setLocs ρ.l rs ρ'.l ++ ρ'.l.drop rs.length, X := ρ.X, T := fun b => (ρ.T b ∧ ¬ Tc b) ∨ ρ'.T b }, hK res L' hR hle, ?_⟩
    generalize hρn : ({ l := setLocs ρ.l rs ρ'.l ++ ρ'.l.drop rs.length, X := ρ.X, T := fun b => (ρ.T b ∧ ¬ Tc b) ∨ ρ'.T b } : Env) = ρn
    have nT : ∀ b, ρn.T b ↔ ((ρ.T b ∧ ¬ Tc b) ∨ ρ'.T b) := fun b => by rw [← hρn]
    have hrl' : rs.length ≤ ρ'.l.length := by rw [hhr.len]; omega
    have hX : ∀ b, ρ'.X b ↔ no ρ b ∧ ¬ own ρc b := fun b => by rw [hst.x]; exact Iff.rfl
    have nl : ρn.l = setLocs ρ.l rs ρ'.l ++ ρ'.l.drop rs.length := by rw [← hρn]
    have nX : ρn.X = ρ.X := by rw [← hρn]
    have nin : ∀ (j r : Nat), rs[j]? = some r → ρn.l[r]? = ρ'.l[j]? := fun j r hj => by
      have h1 : r < ρ.l.length := by rw [hρl]; exact hrlt j r hj
      rw [nl, List.getElem?_append_left (by rw [setLocs_len]; exact h1), setLocs_in rs _ _ j r hn hj h1 hrl']
    have nout : ∀ r, r ∉ rs → r < ρ.l.length → ρn.l[r]? = ρ.l[r]? := fun r hr' h1 => by
      rw [nl, List.getElem?_append_left (by rw [setLocs_len]; exact h1), setLocs_out rs _ _ r hr']
    have nnew : ∀ r, ρ.l.length ≤ r → ρn.l[r]? = ρ'.l[rs.length + (r - ρ.l.length)]? := fun r h1 => by
      rw [nl, List.getElem?_append_right (by rw [setLocs_len]; exact h1), setLocs_len, List.getElem?_drop]
    have nname : ∀ (j : Nat) l, ρ'.l[j]? = some l → ρn.l[nameIn rs s.L.length j]? = some l := fun j l hl => by
      by_cases hj : j < rs.length
      · have hj' := List.getElem?_eq_getElem hj
        rw [hnamein j _ hj', nin j _ hj', hl]
      · have h1 : nameIn rs s.L.length j = s.L.length + (j - rs.length) := by
          simp only [nameIn, List.getD_eq_getElem?_getD, List.getElem?_eq_none (Nat.le_of_not_lt hj), Option.getD_none]
        rw [h1, nnew _ (by omega), ← hl]
        congr 1; omega
    -- where the new own blocks come from
    have nowns : ∀ r b base, ρn.l[r]? = some (some (b, base)) → (r ∉ rs ∧ ρ.l[r]? = some (some (b, base))) ∨ ∃ j, ρ'.l[j]? = some (some (b, base)) ∧ r = nameIn rs s.L.length j := fun r b base hb => by
      by_cases h1 : r < ρ.l.length
      · by_cases h2 : r ∈ rs
        · obtain ⟨j, hj, hjr⟩ := List.mem_iff_getElem.1 h2
          have hj' : rs[j]? = some r := by rw [List.getElem?_eq_getElem hj, hjr]
          rw [nin j r hj'] at hb
          exact .inr ⟨j, hb, (hnamein j r hj').symm⟩
        · rw [nout r h2 h1] at hb
          exact .inl ⟨h2, hb⟩
      · rw [nnew r (by omega)] at hb
        refine .inr ⟨_, hb, ?_⟩
        have h2 : ¬ (rs.length + (r - ρ.l.length) < rs.length) := by omega
        simp only [nameIn, List.getD_eq_getElem?_getD, List.getElem?_eq_none (Nat.le_of_not_lt h2), Option.getD_none]
        omega
    have lnot : ∀ {r b base : Nat}, r ∉ rs → ρ.l[r]? = some (some (b, base)) → ¬ own ρc b := fun {r b base} ho h hc => by
      rcases hc with ⟨j, base2, hj⟩ | hc
      · obtain ⟨q, hq, q1⟩ := hlc hj
        exact absurd (List.mem_of_getElem? hq) (hr.hr.inj _ _ _ _ _ h q1 ▸ ho)
      · exact hr.hr.t.dl b r base (hTc b hc) h
    have tnot : ∀ {b : Nat}, ρ.T b → ¬ Tc b → ¬ own ρc b := fun {b} ht hnt hc => by
      rcases hc with ⟨j, base2, hj⟩ | hc
      · obtain ⟨q, _, q1⟩ := hlc hj
        exact hr.hr.t.dl b q base2 ht q1
      · exact hnt hc
    have fnot : ∀ {r b : Nat} {S : Nat → Prop} {items : List (Value × AV)}, r ∉ rs → s.L[r]? = some (.forest S items) → S b → ¬ Tc b := fun {r b S items} ho h hS hc => by
      obtain ⟨j, q, S', items', h1, h2, h3⟩ := hc
      have := hr.hr.t.dis _ _ _ _ _ _ b h h2 hS h3
      exact ho (this ▸ List.mem_of_getElem? h1)
    have nno : ∀ b, no ρn b → no ρ' b := fun b hb => by
      rcases hb with (⟨r, base, hb⟩ | hb) | hb
      · rcases nowns r b base hb with ⟨ho, h⟩ | ⟨j, h, _⟩
        · exact .inr ((hX b).2 ⟨.inl (.l h), lnot ho h⟩)
        · exact .inl (.l h)
      · rcases (nT b).1 hb with ⟨h1, h2⟩ | h1
        · exact .inr ((hX b).2 ⟨.inl (.inr h1), tnot h1 h2⟩)
        · exact .inl (.inr h1)
      · exact .inr ((hX b).2 ⟨.inr (nX ▸ hb), fun hc => hr.hr.disj b (hownc b hc) (nX ▸ hb)⟩)
    have nsub : ∀ b, b < w.heap.size → own ρn b → own ρ b := fun b hlt hb => by
      rcases hb with ⟨r, base, hb⟩ | hb
      · rcases nowns r b base hb with ⟨_, h⟩ | ⟨j, h, _⟩
        · exact .l h
        · exact hownc b (hst.sub b hlt (.l h))
      · rcases (nT b).1 hb with ⟨h1, _⟩ | h1
        · exact .inr h1
        · exact hownc b (hst.sub b hlt (.inr h1))
    have nfor : ∀ {r : Nat} {S : Nat → Prop} {items : List (Value × AV)}, (s.back rs fxc L').L[r]? = some (.forest S items) → (r ∉ rs ∧ s.L[r]? = some (.forest S items)) ∨ ∃ j : Nat, L'[j]? = some (.forest S items) ∧ r = nameIn rs s.L.length j := fun {r S items} h1 => by
      simp only [AS.back] at h1
      by_cases hrl : r < ρ.l.length
      · rw [List.getElem?_append_left (by rw [setAll_len]; simp; omega)] at h1
        by_cases hin : r ∈ rs
        · obtain ⟨j, hj, hjr⟩ := List.mem_iff_getElem.1 hin
          have hj' : rs[j]? = some r := by rw [List.getElem?_eq_getElem hj, hjr]
          rw [setAll_in rs _ _ j r hn hj' (by simp; omega) (by simp; omega), List.getElem?_map] at h1
          cases hq : L'[j]? with
          | none => simp [hq] at h1
          | some o' =>
            cases o' <;> simp [hq, OB.ren] at h1
            exact .inr ⟨j, by rw [hq, h1.1, h1.2], (hnamein j r hj').symm⟩
        · rw [setAll_out rs _ _ r hin, List.getElem?_map] at h1
          cases hq : s.L[r]? with
          | none => simp [hq] at h1
          | some o0 =>
            cases o0 <;> simp [hq, OB.filt] at h1
            exact .inl ⟨hin, by rw [h1.1, h1.2]⟩
      · rw [List.getElem?_append_right (by rw [setAll_len]; simp; omega), setAll_len] at h1
        simp only [List.length_map, List.getElem?_map, List.getElem?_drop] at h1
        cases hq : L'[rs.length + (r - s.L.length)]? with
        | none => simp [hq] at h1
        | some o' =>
          cases o' <;> simp [hq, OB.ren] at h1
          refine .inr ⟨_, by rw [hq, h1.1, h1.2], ?_⟩
          have h2 : ¬ (rs.length + (r - s.L.length) < rs.length) := by omega
          simp only [nameIn, List.getD_eq_getElem?_getD, List.getElem?_eq_none (Nat.le_of_not_lt h2), Option.getD_none]
          omega
    have nnoρ : ∀ b, b < w.heap.size → no ρn b → no ρ b := fun b hlt hb => by
      rcases hb with hb | hb
      · exact .inl (nsub b hlt hb)
      · exact .inr (nX ▸ hb)
    have hfr : Fr (own ρ) w w' := ⟨hst.fr.le, fun b hb hno => hst.fr.same b hb fun h => hno (hownc b h), hst.fr.size, hst.fr.os, hst.fr.out, hst.fr.tape⟩
    have hstay : ∀ (r : Nat) l, (!(movedBy rs fxc).contains r) = true → ρ.l[r]? = some l → ρn.l[r]? = some l := fun r l hp hl => by
      have hrl : r < ρ.l.length := (List.getElem?_eq_some_iff.1 hl).1
      by_cases h2 : r ∈ rs
      · obtain ⟨j, hj, hjr⟩ := List.mem_iff_getElem.1 h2
        have hj' : rs[j]? = some r := by rw [List.getElem?_eq_getElem hj, hjr]
        have hjf : j ∈ fxc := by
          have : r ∉ movedBy rs fxc := by simpa using hp
          exact Classical.byContradiction fun hc => this ((mem_moved hn hj').2 hc)
        obtain ⟨l', p1, p2⟩ := hget j r hj'
        rw [hl] at p1; cases p1
        rw [nin j r hj']
        exact hst.fix j hjf _ p2
      · rw [nout r h2 hrl]; exact hl
    have keepF : ∀ v x, VR w ρ v x → VR w' ρn v (x.filt fun r => !(movedBy rs fxc).contains r) := fun v x hv => hv.mono hfr nnoρ _ hstay
    have keepP : ∀ v x, PR w (no ρ) v x → PR w' (no ρn) v x := fun v x hv => hv.mono (fun b hb hno => hfr.same b hb fun h => hno (.inl h)) hfr.le nnoρ
    refine ⟨⟨hr.dfr, by simp [AS.back, hr.size], fun i v x h1 h2 => ?_, ⟨?_, ?_, ?_, ?_, ?_, ⟨fun b hb => ?_, fun b r base ht hl => ?_, fun r S items b hrL hS => ?_, fun r r' S S' items items' b h1 h2 hS hS' => ?_⟩⟩⟩, hvr.ren _ nname (fun b _ hb => nno b hb), ⟨hfr, nsub, fun r hrf l hl => ?_, nX⟩⟩
    · simp only [AS.back, List.getElem?_map] at h2
      cases hq : s.tm[i]? with
      | none => simp [hq] at h2
      | some y => simp only [hq, Option.map_some, Option.some.injEq] at h2; subst h2; exact keepF _ _ (hr.tm i v y h1 hq)
    · rw [nl]
      simp only [AS.back, List.length_append, setLocs_len, setAll_len, List.length_map, List.length_drop]
      rw [hρl, hhr.len]
    · intro b hb
      rw [nX] at hb
      exact Nat.lt_of_lt_of_le (hr.hr.xlt b hb) hfr.le
    · intro b hb hx
      rw [nX] at hx
      rcases hb with ⟨r, base, hb⟩ | hb
      · rcases nowns r b base hb with ⟨_, h⟩ | ⟨j, h, _⟩
        · exact hr.hr.disj b (.l h) hx
        · exact hhr.disj b (.l h) ((hX b).2 ⟨.inr hx, fun hc => hr.hr.disj b (hownc b hc) hx⟩)
      · rcases (nT b).1 hb with ⟨h1, _⟩ | h1
        · exact hr.hr.disj b (.inr h1) hx
        · exact hhr.disj b (.inr h1) ((hX b).2 ⟨.inr hx, fun hc => hr.hr.disj b (hownc b hc) hx⟩)
    · intro r r' b base base' h1 h2
      rcases nowns r b base h1 with ⟨o1, p1⟩ | ⟨j1, p1, e1⟩ <;> rcases nowns r' b base' h2 with ⟨o2, p2⟩ | ⟨j2, p2, e2⟩
      · exact hr.hr.inj _ _ _ _ _ p1 p2
      · exact absurd (hst.sub b (own_lt hr.hr (.l p1)) (.l p2)) (lnot o1 p1)
      · exact absurd (hst.sub b (own_lt hr.hr (.l p2)) (.l p1)) (lnot o2 p2)
      · rw [e1, e2, hhr.inj _ _ _ _ _ p1 p2]
    · intro r o l h1 h2
      simp only [AS.back] at h1
      by_cases hrl : r < ρ.l.length
      · rw [List.getElem?_append_left (by rw [setAll_len]; simp; omega)] at h1
        by_cases hin : r ∈ rs
        · obtain ⟨j, hj, hjr⟩ := List.mem_iff_getElem.1 hin
          have hj' : rs[j]? = some r := by rw [List.getElem?_eq_getElem hj, hjr]
          rw [setAll_in rs _ _ j r hn hj' (by simp; omega) (by simp; omega), List.getElem?_map] at h1
          rw [nin j r hj'] at h2
          cases hq : L'[j]? with
          | none => simp [hq] at h1
          | some o' =>
            simp [hq] at h1; subst h1
            exact (hhr.ent j o' l hq h2).ren _ nname (fun b _ hb => nno b hb)
        · rw [setAll_out rs _ _ r hin, List.getElem?_map] at h1
          rw [nout r hin hrl] at h2
          cases hq : s.L[r]? with
          | none => simp [hq] at h1
          | some o0 =>
            simp only [hq, Option.map_some, Option.some.injEq] at h1
            subst h1
            have hent := hr.hr.ent r o0 l hq h2
            have hsame : ∀ b base, l = some (b, base) → w'.heap[b]? = w.heap[b]? := fun b base hl => by
              subst hl
              exact hst.fr.same b (own_lt hr.hr (.l h2)) (lnot hin h2)
            cases o0 with
            | dead => exact hent
            | cells cs =>
              obtain ⟨b, c, ty, g1, g2, g3, g4⟩ := hent
              refine ⟨b, c, ty, g1, by rw [hsame _ _ g1]; exact g2, by simpa using g3, fun i v x h5 h6 => ?_⟩
              simp only [List.getElem?_map] at h6
              cases hx : cs[i]? with
              | none => simp [hx] at h6
              | some y => simp only [hx, Option.map_some, Option.some.injEq] at h6; subst h6; exact keepF _ _ (g4 i v y h5 hx)
            | slab cs =>
              rcases hent with ⟨hz1, hz2⟩ | ⟨b, base0, c, ty, g1, g2, g3, g4⟩
              · exact .inl ⟨hz1, by simpa using hz2⟩
              refine .inr ⟨b, base0, c, ty, g1, by rw [hsame _ _ g1]; exact g2, by simpa using g3, fun i v x h5 h6 => ?_⟩
              simp only [List.getElem?_map] at h6
              cases hx : cs[i]? with
              | none => simp [hx] at h6
              | some y => simp only [hx, Option.map_some, Option.some.injEq] at h6; subst h6; exact keepF _ _ (g4 i v y h5 hx)
            | vec k es =>
              obtain ⟨h0, hl, hd⟩ := hent
              refine ⟨h0, hl, ?_⟩
              rcases hd with hd | ⟨b, base', c, ty, g1, g2, g3, g4⟩
              · exact .inl hd
              · exact .inr ⟨b, base', c, ty, g1, by rw [hsame _ _ g1]; exact g2, g3, fun i j ei x h5 h6 => let ⟨v, h7, h8⟩ := g4 i j ei x h5 h6; ⟨v, h7, keepP _ _ h8⟩⟩
            | forest S items => exact ⟨hent.1, hent.2.keep fun b hS hlt => hst.fr.same b hlt (tnot (hr.hr.t.sub _ _ _ b hq hS) (fnot hin hq hS))⟩
      · rw [List.getElem?_append_right (by rw [setAll_len]; simp; omega), setAll_len] at h1
        simp only [List.length_map, List.getElem?_map, List.getElem?_drop] at h1
        rw [nnew r (by omega), hρl] at h2
        cases hq : L'[rs.length + (r - s.L.length)]? with
        | none => simp [hq] at h1
        | some o' =>
          simp [hq] at h1; subst h1
          exact (hhr.ent _ o' l hq h2).ren _ nname (fun b _ hb => nno b hb)
    · rcases (nT b).1 hb with ⟨h1, _⟩ | h1
      · exact Nat.lt_of_lt_of_le (hr.hr.t.lt b h1) hfr.le
      · exact hhr.t.lt b h1
    · rcases (nT b).1 ht with ⟨h1, h2⟩ | h1 <;> rcases nowns r b base hl with ⟨ho, h⟩ | ⟨j, h, _⟩
      · exact hr.hr.t.dl b r base h1 h
      · exact tnot h1 h2 (hst.sub b (hr.hr.t.lt b h1) (.l h))
      · exact lnot ho h (hst.sub b (own_lt hr.hr (.l h)) (.inr h1))
      · exact hhr.t.dl b j base h1 h
    · rcases nfor hrL with ⟨ho, h⟩ | ⟨j, h, _⟩
      · exact (nT b).2 (.inl ⟨hr.hr.t.sub _ _ _ b h hS, fnot ho h hS⟩)
      · exact (nT b).2 (.inr (hhr.t.sub _ _ _ b h hS))
    · rcases nfor h1 with ⟨o1, p1⟩ | ⟨j1, p1, e1⟩ <;> rcases nfor h2 with ⟨o2, p2⟩ | ⟨j2, p2, e2⟩
      · exact hr.hr.t.dis _ _ _ _ _ _ b p1 p2 hS hS'
      · have ht := hr.hr.t.sub _ _ _ b p1 hS
        exact absurd (hst.sub b (hr.hr.t.lt b ht) (.inr (hhr.t.sub _ _ _ b p2 hS'))) (tnot ht (fnot o1 p1 hS))
      · have ht := hr.hr.t.sub _ _ _ b p2 hS'
        exact absurd (hst.sub b (hr.hr.t.lt b ht) (.inr (hhr.t.sub _ _ _ b p1 hS))) (tnot ht (fnot o2 p2 hS'))
      · rw [e1, e2, hhr.t.dis _ _ _ _ _ _ b p1 p2 hS hS']
    · refine hstay r l ?_ hl
      by_cases h2 : r ∈ rs
      · obtain ⟨j, hj, hjr⟩ := List.mem_iff_getElem.1 h2
        have hj' : rs[j]? = some r := by rw [List.getElem?_eq_getElem hj, hjr]
        have : r ∉ movedBy rs fxc := fun hm => (mem_moved hn hj').1 hm (hfx j r hj' hrf)
        simpa using this
      · simpa using not_moved h2

end

end Go.Pc

/- The abstract logic, seventh part: regions, control flow, loops, bodies. -/
namespace Go.Pc
open Go

/-- The result goes into its temporary, then on. -/
def PutK (dst : Option Tmp) (K : AS → Prop) (r : AV) (s : AS) : Prop := K (s.put dst r)
def PutQ (dst : Option Tmp) (s : AS) (K : AS → Prop) (r : AV) : Prop := K (s.put dst r)

section
variable (P : Program) (T : TypeId → Ty) (fx bl : List Nat)

/-- One operation. -/
def aOp (o : Oper) (s : AS) (K : AS → Prop) : Prop :=
  match o.op with
  | .alloc e => sAlloc T e s (PutK o.dst K)
  | .box _ x => sBox (s.ev x) s (PutK o.dst K)
  | .buildSlice t n ps => sLit T (bl.contains (o.dst.getD 0)) t n (ps.toList.map fun p => (p.1, s.ev p.2)) s (PutK o.dst K)
  | .makeSlice t l c => sMake T t (s.ev l) (s.ev c) s (PutK o.dst K)
  | .store t x y => sStore T t (s.ev x) (s.ev y) s (PutK o.dst K (.val undef))
  | .call { callee := .builtin .append, args, argTypes } =>
    match args.toList, argTypes.toList with
    | [x, y], [t, t'] => t = t' ∧ sApp T fx (bl.contains (o.dst.getD 0)) t (s.ev x) (s.ev y) s (PutK o.dst K)
    | _, _ => False
  | .call { callee := .value f, args, .. } => ACall P fx (s.ev f) (args.toList.map s.ev) s (PutK o.dst K)
  | op => qOp P T op s (PutQ o.dst s K)

/-- What a guard's operation has yielded: known to be a bool, known to be none, or not known. -/
def gBool (all : List Oper) (s : AS) (g : Nat) : Option (Option Bool) :=
  match (all[g]?).bind (·.dst) with
  | none => some none
  | some d =>
    match s.tm[d]? with
    | some (.val (.bool b)) => some (some b)
    | some (.val _) => some none
    | none => some none
    | _ => none

def sxOps (all : List Oper) : List Oper → AS → (AS → Prop) → Prop
  | [], s, K => K s
  | o :: rest, s, K =>
    match o.guard with
    | none => aOp P T fx bl o s (fun s' => sxOps all rest s' K)
    | some (g, want) =>
      match gBool all s g with
      | some (some b) => (b = want → aOp P T fx bl o s (fun s' => sxOps all rest s' K)) ∧ (b = !want → sxOps all rest (s.put o.dst (.val undef)) K)
      | some none => sxOps all rest (s.put o.dst (.val undef)) K
      | none => False

def Nxt (all : List Oper) (rest : List Oper) (K : AS → Prop) (s : AS) : Prop := sxOps P T fx bl all rest s K

theorem sxOps_nil (all : List Oper) (s : AS) (K : AS → Prop) : sxOps P T fx bl all [] s K = K s := nrf rfl

theorem sxOps_cons (all : List Oper) (dst : Option Tmp) (op : Op) (ty : TypeId) (pos : String) (after : Array Edge) (rest : List Oper) (s : AS) (K : AS → Prop) :
    sxOps P T fx bl all ({ dst := dst, op := op, type := ty, pos := pos, after := after, guard := none } :: rest) s K = aOp P T fx bl { dst := dst, op := op, type := ty, pos := pos, after := after, guard := none } s (Nxt P T fx bl all rest K) := nrf rfl

/-- A fork: the tested temporary holds the answer itself afterwards. -/
def Br (b : Bool) (X Y : AS → Prop) (f : Bool → AS) : Prop := (b = true → X (f true)) ∧ (b = false → Y (f false))

def AS.tell (s : AS) (d : Nat) (b : Bool) : AS := { s with tm := s.tm.set d (.val (.bool b)) }

theorem Br_true (X Y : AS → Prop) (f : Bool → AS) : Br true X Y f = X (f true) := by simp [Br]
theorem Br_false (X Y : AS → Prop) (f : Bool → AS) : Br false X Y f = Y (f false) := by simp [Br]
theorem br_dec {p : Prop} [Decidable p] {X Y : AS → Prop} {f : Bool → AS} (h1 : p → X (f true)) (h2 : ¬ p → Y (f false)) : Br (decide p) X Y f := ⟨fun h => h1 (by simpa using h), fun h => h2 (by simpa using h)⟩
theorem br_bool {b : Bool} {X Y : AS → Prop} {f : Bool → AS} (h1 : b = true → X (f true)) (h2 : b = false → Y (f false)) : Br b X Y f := ⟨h1, h2⟩

theorem AS.tell_eq {s : AS} {d : Nat} {b : Bool} (h : s.tm[d]? = some (.val (.bool b))) : s.tell d b = s := by
  unfold AS.tell
  have : s.tm.set d (.val (.bool b)) = s.tm := by
    refine List.ext_getElem? fun i => ?_
    rw [List.getElem?_set]
    split
    · rename_i hi; subst hi
      split
      · exact h.symm
      · rename_i hl; rw [List.getElem?_eq_none (by omega)] at h; cases h
    · rfl
  rw [this]

def GGo (all : List Oper) (o : Oper) (rest : List Oper) (K : AS → Prop) (s : AS) : Prop := aOp P T fx bl o s (Nxt P T fx bl all rest K)
def GSkip (all : List Oper) (dst : Option Tmp) (rest : List Oper) (K : AS → Prop) (s : AS) : Prop := Nxt P T fx bl all rest K (s.put dst (.val undef))

/-- What a guard's temporary tells. -/
inductive GV where
  | tells (b : Bool)
  | no
  | bad

def gv : Option AV → GV
  | some (.val (.bool b)) => .tells b
  | some (.val _) => .no
  | none => .no
  | _ => .bad
theorem gv_bool (b : Bool) : gv (some (.val (.bool b))) = .tells b := nrf rfl
theorem gv_undef : gv (some (.val undef)) = .no := nrf rfl
theorem gv_none : gv none = .no := nrf rfl

def dstAt : List Oper → Nat → Option Tmp
  | [], _ => none
  | o :: _, 0 => o.dst
  | _ :: l, n + 1 => dstAt l n
theorem dstAt_zero (dst : Option Tmp) (op : Op) (ty : TypeId) (pos : String) (after : Array Edge) (g : Option (Nat × Bool)) (l : List Oper) : dstAt ({ dst := dst, op := op, type := ty, pos := pos, after := after, guard := g } :: l) 0 = dst := nrf rfl
theorem dstAt_succ (o : Oper) (l : List Oper) (n : Nat) : dstAt (o :: l) (n + 1) = dstAt l n := nrf rfl
theorem dstAt_eq : ∀ (l : List Oper) (n : Nat), (l[n]?).bind (·.dst) = dstAt l n
  | [], n => by simp [dstAt]
  | o :: l, 0 => by simp [dstAt]
  | o :: l, n + 1 => by simp only [List.getElem?_cons_succ, dstAt]; exact dstAt_eq l n

/-- An operation under a guard. -/
def GOp (all : List Oper) (o : Oper) (g : Nat) (want : Bool) (rest : List Oper) (s : AS) (K : AS → Prop) : Prop :=
  match dstAt all g with
  | none => GSkip P T fx bl all o.dst rest K s
  | some d =>
    match gv s.tm[d]? with
    | .tells b =>
      match want with
      | true => Br b (GGo P T fx bl all o rest K) (GSkip P T fx bl all o.dst rest K) (s.tell d)
      | false => Br b (GSkip P T fx bl all o.dst rest K) (GGo P T fx bl all o rest K) (s.tell d)
    | .no => GSkip P T fx bl all o.dst rest K s
    | .bad => False

theorem sxOps_guard (all : List Oper) (dst : Option Tmp) (op : Op) (ty : TypeId) (pos : String) (after : Array Edge) (g : Nat) (want : Bool) (rest : List Oper) (s : AS) (K : AS → Prop) :
    sxOps P T fx bl all ({ dst := dst, op := op, type := ty, pos := pos, after := after, guard := some (g, want) } :: rest) s K = GOp P T fx bl all { dst := dst, op := op, type := ty, pos := pos, after := after, guard := some (g, want) } g want rest s K := by
  simp only [sxOps, GOp, gBool, dstAt_eq]
  cases hd : dstAt all g with
  | none => rfl
  | some d =>
    simp only
    cases hs : s.tm[d]? with
    | none => rfl
    | some x =>
      cases x with
      | val v =>
        cases v with
        | bool b =>
          have ht := AS.tell_eq hs
          cases b <;> cases want <;> (simp [Br, GGo, GSkip, Nxt, ht, gv] <;> exact Iff.rfl)
        | _ => rfl
      | _ => rfl

/-- What is asked of a piece of code in an abstract state. -/
def awp (c : Code) (Q : Exit → AS → Prop) (s : AS) : Prop :=
  ∀ (ρ : Env) (a : Act) (w : World), Rel ρ s a w → c.wp P (fun e a' w' => ∃ s' ρ', Q e s' ∧ Rel ρ' s' a' w' ∧ St fx ρ w ρ' w') a w

def sx : Code → (Exit → AS → Prop) → AS → Prop
  | .skip, Q, s => Q .normal s
  | .region id ops draw, Q, s =>
    match draw with
    | true => awp P fx (.region id ops true) Q s
    | false => sxOps P T fx bl ops.toList ops.toList s (Q .normal)
  | .seq x y, Q, s => sx x (fun e s' =>
    match e with
    | .normal => sx y Q s'
    | .exit i => Q (.exit i) s'
    | .goto l => Q (.goto l) s'
    | .ret => Q .ret s'
    | .panic c => Q (.panic c) s'
    | .outgrown => Q .outgrown s') s
  | .cond c x y, Q, s =>
    match s.ev c with
    | .val (.bool t) => (t = true → sx x Q s) ∧ (t = false → sx y Q s)
    | _ => False
  | .block id c, Q, s => sx c (fun e s' =>
    match e with
    | .normal => Q .normal s'
    | .exit i => if i = id then Q .normal s' else Q (.exit i) s'
    | .goto l => Q (.goto l) s'
    | .ret => Q .ret s'
    | .panic c => Q (.panic c) s'
    | .outgrown => Q .outgrown s') s
  | .loop c, Q, s => awp P fx (.loop c) Q s
  | .exit id, Q, s => Q (.exit id) s
  | .label _, Q, s => Q .normal s
  | .goto l, Q, s => Q (.goto l) s
  | .ret, Q, s => Q .ret s
  | .scope c, Q, s => awp P fx (.scope c) Q s
  | _, _, _ => False

/-- Behind a piece of code that ends normally comes the next. -/
def Then (y : Code) (Q : Exit → AS → Prop) (e : Exit) (s : AS) : Prop :=
  match e with
  | .normal => sx P T fx bl y Q s
  | .exit i => Q (.exit i) s
  | .goto l => Q (.goto l) s
  | .ret => Q .ret s
  | .panic c => Q (.panic c) s
  | .outgrown => Q .outgrown s

def InB (id : Nat) (Q : Exit → AS → Prop) (e : Exit) (s : AS) : Prop :=
  match e with
  | .normal => Q .normal s
  | .exit i => if i = id then Q .normal s else Q (.exit i) s
  | .goto l => Q (.goto l) s
  | .ret => Q .ret s
  | .panic c => Q (.panic c) s
  | .outgrown => Q .outgrown s

variable (Q : Exit → AS → Prop) (s : AS)
theorem sx_skip : sx P T fx bl .skip Q s = Q .normal s := nrf rfl
theorem sx_seq (x y : Code) : sx P T fx bl (.seq x y) Q s = sx P T fx bl x (Then P T fx bl y Q) s := nrf rfl
theorem sx_block (id : Nat) (c : Code) : sx P T fx bl (.block id c) Q s = sx P T fx bl c (InB id Q) s := nrf rfl
theorem sx_region (id : Nat) (ops : List Oper) : sx P T fx bl (.region id ops.toArray false) Q s = sxOps P T fx bl ops ops s (Q .normal) := nrf rfl
theorem sx_draw (id : Nat) (ops : Array Oper) : sx P T fx bl (.region id ops true) Q s = awp P fx (.region id ops true) Q s := nrf rfl
theorem sx_loop (c : Code) : sx P T fx bl (.loop c) Q s = awp P fx (.loop c) Q s := nrf rfl
theorem sx_scope (c : Code) : sx P T fx bl (.scope c) Q s = awp P fx (.scope c) Q s := nrf rfl
theorem sx_exit (id : Nat) : sx P T fx bl (.exit id) Q s = Q (.exit id) s := nrf rfl
theorem sx_ret : sx P T fx bl .ret Q s = Q .ret s := nrf rfl
theorem sx_cond (c : Operand) (x y : Code) : sx P T fx bl (.cond c x y) Q s = (match c with
    | .tmp d =>
      match s.tm.getD d .any with
      | .val (.bool t) => Br t (sx P T fx bl x Q) (sx P T fx bl y Q) (s.tell d)
      | _ => False
    | c => match s.ev c with
      | .val (.bool t) => Br t (sx P T fx bl x Q) (sx P T fx bl y Q) (fun _ => s)
      | _ => False) := by
  cases c with
  | tmp d =>
    simp only [sx, AS.ev]
    cases hx : s.tm.getD d .any with
    | val v =>
      cases v with
      | bool t =>
        have hs : s.tm[d]? = some (.val (.bool t)) := by
          rw [List.getD_eq_getElem?_getD] at hx
          cases hq : s.tm[d]? with
          | none => rw [hq] at hx; cases hx
          | some y => rw [hq] at hx; simp at hx; rw [hx]
        have ht := AS.tell_eq hs
        cases t <;> simp [Br, ht]
      | _ => rfl
    | _ => rfl
  | _ => rfl
end

section
variable {P : Program} {T : TypeId → Ty} {fx bl : List Nat}

theorem aOp_sound (hT : TTOk P T) {o : Oper} {s : AS} {K : AS → Prop} (h : aOp P T fx bl o s K) : AOK P fx o s K := by
  have fin : ∀ {ρ : Env} {a : Act} {w : World} {x : Sem Value} {v : Value} {w' : World} {r : AV} {s' : AS} {ρ' : Env}, x.run P w = .ok v w' → K (s'.put o.dst r) → Rel ρ' s' a w' → VR w' ρ' v r → St fx ρ w ρ' w' →
      Out P (fun v w' => ∃ s' ρ', K s' ∧ Rel ρ' s' (a.put o.dst v) w' ∧ St fx ρ w ρ' w') ((do pure (Next.value (← x)) : Sem Next).run P w) := fun hx hK hr hv hst => by
    simp only [Sem.run_bind, hx, Result.andThen_ok, Sem.run_pure, Out]
    exact ⟨_, _, hK, hr.put o.dst hv, hst⟩
  unfold aOp at h
  split at h
  case h_1 e ho =>
    intro ρ a w hr
    obtain ⟨v, w', r, s', ρ', h1, h2, h3, h4, h5⟩ := sAlloc_sound hT (fx := fx) h hr
    simp only [execOp, ho]
    exact fin h1 h2 h3 h4 h5
  case h_2 e x ho =>
    intro ρ a w hr
    obtain ⟨v, w', r, s', ρ', h1, h2, h3, h4, h5⟩ := sBox_sound (P := P) (fx := fx) (e := e) h hr (hr.ev x)
    simp only [execOp, ho]
    exact fin h1 h2 h3 h4 h5
  case h_3 t n ps ho =>
    intro ρ a w hr
    obtain ⟨v, w', r, s', ρ', h1, h2, h3, h4, h5⟩ := sLit_sound hT (fx := fx) h hr (vs := ps.map fun (i, x) => (i, a.eval x)) (by simp) (fun i v p hv hp => by
      rw [Array.getElem?_map] at hv
      rw [List.getElem?_map] at hp
      cases hq : ps[i]? with
      | none => simp [hq] at hv
      | some q =>
        have hq' : ps.toList[i]? = some q := by simpa using hq
        simp [hq] at hv
        simp [hq'] at hp
        subst hv; subst hp
        exact ⟨rfl, hr.ev _⟩)
    simp only [execOp, ho]
    exact fin h1 h2 h3 h4 h5
  case h_4 t l c ho =>
    intro ρ a w hr
    obtain ⟨v, w', r, s', ρ', h1, h2, h3, h4, h5⟩ := sMake_sound hT (fx := fx) h hr (hr.ev l) (hr.ev c)
    simp only [execOp, ho]
    exact fin h1 h2 h3 h4 h5
  case h_5 t x y ho =>
    intro ρ a w hr
    obtain ⟨w', s', h1, h2, h3, h4⟩ := sStore_sound hT (fx := fx) h hr (hr.ev x) (hr.ev y)
    simp only [execOp, ho, Sem.run_bind, h1, Result.andThen_ok, Sem.run_pure, Out]
    exact ⟨_, _, h2, h3.put o.dst (.pr (.val _)), h4⟩
  case h_6 args ts ho =>
    split at h
    · rename_i x y t t' ha ht
      obtain ⟨rfl, h⟩ := h
      have hargs : args = #[x, y] := by rw [← Array.toArray_toList (xs := args), ha]
      have hts : ts = #[t, t] := by rw [← Array.toArray_toList (xs := ts), ht]
      subst hargs; subst hts
      intro ρ a w hr
      obtain ⟨v, w', r, s', ρ', h1, h2, h3, h4, h5⟩ := sApp_sound hT (fx := fx) (ty := o.type) h hr (hr.ev x) (hr.ev y)
      simp only [execOp, ho, resolve, Sem.run_bind, Sem.run_pure, Result.andThen_ok, invoke, builtin, List.map_toArray, List.map_cons, List.map_nil, h1, Out]
      exact ⟨_, _, h2, h3.put o.dst h4, h5⟩
    · cases h
  case h_7 f args ts ho =>
    intro ρ a w hr
    have := h ρ a w (a.eval f) (args.map a.eval) hr (hr.ev f) (by simp) (fun i v x hv hx' => by
      rw [Array.getElem?_map] at hv
      rw [List.getElem?_map] at hx'
      cases hq : args[i]? with
      | none => simp [hq] at hv
      | some q =>
        have hq' : args.toList[i]? = some q := by simpa using hq
        simp [hq] at hv
        simp [hq'] at hx'
        subst hv; subst hx'
        exact hr.ev q)
    simp only [execOp, ho, resolve]
    exact this.mono fun v w' ⟨r, s', ρ', h2, h3, h4, h5⟩ => ⟨_, _, h2, h3.put o.dst h4, h5⟩
  case h_8 =>
    obtain ⟨r, hK, hq⟩ := qOp_sound hT h
    exact AOK.of_quiet hq hK

theorem gBool_sound {all : List Oper} {s : AS} {g : Nat} {y : Option Bool} (h : gBool all s g = some y) {ρ : Env} {a : Act} {w : World} (hr : Rel ρ s a w) : yielded all.toArray a.tmps g = y := by
  unfold gBool at h
  unfold yielded
  simp only [List.getElem?_toArray]
  split at h
  · rename_i hd
    cases h
    simp [hd]
  · rename_i d hd
    rw [hd]
    simp only [Option.bind_some]
    split at h
    · rename_i b hb
      cases h
      have hlt : d < a.tmps.size := by rw [hr.size]; exact (List.getElem?_eq_some_iff.1 hb).1
      have hv := Array.getElem?_eq_getElem hlt
      have := val_inv (hr.tm d _ _ hv hb)
      rw [hv, this]
    · rename_i v hnb hb
      cases h
      have hlt : d < a.tmps.size := by rw [hr.size]; exact (List.getElem?_eq_some_iff.1 hb).1
      have hv := Array.getElem?_eq_getElem hlt
      have := val_inv (hr.tm d _ _ hv hb)
      rw [hv, this]
      cases v <;> first | rfl | exact absurd rfl (hnb _)
    · rename_i hn
      cases h
      have : a.tmps[d]? = none := by
        rw [Array.getElem?_eq_none_iff, hr.size]
        exact List.getElem?_eq_none_iff.1 hn
      rw [this]
    · cases h

theorem sxOps_sound (hT : TTOk P T) (all : List Oper) {K : AS → Prop} {ρ0 : Env} {w0 : World} : ∀ (l : List Oper) (s : AS) (ρ : Env) (a : Act) (w : World), sxOps P T fx bl all l s K → Rel ρ s a w → St fx ρ0 w0 ρ w →
    wpList P all.toArray (fun e a' w' => ∃ s' ρ', (match e with | .normal => K s' | _ => False) ∧ Rel ρ' s' a' w' ∧ St fx ρ0 w0 ρ' w') l a w
  | [], s, ρ, a, w, h, hr, hst => ⟨s, ρ, h, hr, hst⟩
  | o :: rest, s, ρ, a, w, h, hr, hst => by
    have go : aOp P T fx bl o s (fun s' => sxOps P T fx bl all rest s' K) → o.wp P a w (wpList P all.toArray (fun e a' w' => ∃ s' ρ', (match e with | .normal => K s' | _ => False) ∧ Rel ρ' s' a' w' ∧ St fx ρ0 w0 ρ' w') rest) (fun e a' w' => ∃ s' ρ', (match e with | .normal => K s' | _ => False) ∧ Rel ρ' s' a' w' ∧ St fx ρ0 w0 ρ' w') := fun ha =>
      wp_of_out ((aOp_sound hT ha ρ a w hr).mono fun v w' ⟨s', ρ', h1, h2, h3⟩ => sxOps_sound hT all rest s' ρ' _ w' h1 h2 (hst.trans h3))
    unfold wpList
    simp only [sxOps] at h
    cases hg : o.guard with
    | none =>
      rw [hg] at h
      rw [if_pos (by simp [Region.wanted, hg])]
      exact .inl (go h)
    | some gw =>
      obtain ⟨g, want⟩ := gw
      rw [hg] at h
      simp only at h
      split at h
      · rename_i b hb
        have hy := gBool_sound hb hr
        by_cases hbw : b = want
        · rw [if_pos (by simp [Region.wanted, hg, hy, hbw])]
          exact .inl (go (h.1 hbw))
        · rw [if_neg (by simp [Region.wanted, hg, hy, hbw])]
          exact sxOps_sound hT all rest _ ρ _ w (h.2 (by cases b <;> cases want <;> simp_all)) (hr.put o.dst (.pr (.val _))) hst
      · rename_i hb
        have hy := gBool_sound hb hr
        rw [if_neg (by simp [Region.wanted, hg, hy])]
        exact sxOps_sound hT all rest _ ρ _ w h (hr.put o.dst (.pr (.val _))) hst
      · cases h

theorem awp.mono {c : Code} {Q Q' : Exit → AS → Prop} {s : AS} (h : awp P fx c Q s) (hq : ∀ e s, Q e s → Q' e s) : awp P fx c Q' s :=
  fun ρ a w hr => wp_mono (h ρ a w hr) fun _ _ _ ⟨s', ρ', h1, h2⟩ => ⟨s', ρ', hq _ _ h1, h2⟩

theorem awp_seq {x y : Code} {Q : Exit → AS → Prop} {s : AS} (h : awp P fx x (fun e s' => match e with
    | .normal => awp P fx y Q s'
    | .exit i => Q (.exit i) s'
    | .goto l => Q (.goto l) s'
    | .ret => Q .ret s'
    | .panic c => Q (.panic c) s'
    | .outgrown => Q .outgrown s') s) : awp P fx (.seq x y) Q s := fun ρ a w hr => by
  refine wp_seq (wp_mono (h ρ a w hr) fun e a' w' ⟨s', ρ', h1, h2, h3⟩ => ?_)
  cases e with
  | normal => exact wp_mono (h1 ρ' a' w' h2) fun e a'' w'' ⟨s'', ρ'', g1, g2, g3⟩ => ⟨s'', ρ'', g1, g2, h3.trans g3⟩
  | _ => exact ⟨s', ρ', h1, h2, h3⟩

theorem sx_sound (hT : TTOk P T) : ∀ (c : Code) (Q : Exit → AS → Prop) (s : AS), sx P T fx bl c Q s → awp P fx c Q s
  | .skip, Q, s, h => fun ρ a w hr => wp_skip ⟨s, ρ, h, hr, .refl⟩
  | .region id ops true, Q, s, h => h
  | .region id ops false, Q, s, h => fun ρ a w hr => by
    refine wp_mono (wp_region_list (id := id) (ops := ops) (Q := fun e a' w' => ∃ s' ρ', (match e with | .normal => Q .normal s' | _ => False) ∧ Rel ρ' s' a' w' ∧ St fx ρ w ρ' w') ?_) fun e a' w' ⟨s', ρ', h1, h2⟩ => ?_
    · have := sxOps_sound hT ops.toList ops.toList s ρ a w h hr (St.refl (fx := fx))
      simpa using this
    · cases e <;> first | exact ⟨s', ρ', h1, h2⟩ | cases h1
  | .seq x y, Q, s, h => awp_seq (awp.mono (sx_sound hT x _ s h) fun e s' h' => by
    cases e <;> first | exact sx_sound hT y Q s' h' | exact h')
  | .cond c x y, Q, s, h => fun ρ a w hr => by
    simp only [sx] at h
    split at h
    · rename_i t hc
      have hv := hr.ev c
      rw [hc] at hv
      have := val_inv hv
      cases t
      · exact wp_cond_false this (sx_sound hT y Q s (h.2 rfl) ρ a w hr)
      · exact wp_cond_true this (sx_sound hT x Q s (h.1 rfl) ρ a w hr)
    · cases h
  | .block id c, Q, s, h => fun ρ a w hr => by
    refine wp_block (wp_mono (sx_sound hT c _ s h ρ a w hr) fun e a' w' ⟨s', ρ', h1, h2⟩ => ?_)
    cases e with
    | exit i =>
      simp only at h1
      simp only [Exit.inBlock]
      split
      · rename_i hi; rw [if_pos hi] at h1; exact ⟨s', ρ', h1, h2⟩
      · rename_i hi; rw [if_neg hi] at h1; exact ⟨s', ρ', h1, h2⟩
    | _ => exact ⟨s', ρ', h1, h2⟩
  | .loop c, Q, s, h => h
  | .exit id, Q, s, h => fun ρ a w hr => wp_exit ⟨s, ρ, h, hr, .refl⟩
  | .label l, Q, s, h => fun ρ a w hr => wp_label ⟨s, ρ, h, hr, .refl⟩
  | .goto l, Q, s, h => fun ρ a w hr => wp_goto ⟨s, ρ, h, hr, .refl⟩
  | .ret, Q, s, h => fun ρ a w hr => wp_ret ⟨s, ρ, h, hr, .refl⟩
  | .scope c, Q, s, h => h
  | .rangeFunc .., Q, s, h => by cases h
  | .refuse _, Q, s, h => by cases h

end

end Go.Pc

/- The abstract logic, eighth part: loops, states weakened, what a body returns, own rows that become immutable. -/
namespace Go.Pc
open Go

/-- A state may be taken for another one, that says less. -/
def Wk (fx : List Nat) (s t : AS) : Prop := ∀ (ρ : Env) (a : Act) (w : World), Rel ρ s a w → ∃ ρ', Rel ρ' t a w ∧ St fx ρ w ρ' w

theorem Wk.refl {fx : List Nat} {s : AS} : Wk fx s s := fun ρ _ _ h => ⟨ρ, h, .refl⟩
theorem Wk.trans {fx : List Nat} {s t u : AS} (h : Wk fx s t) (h' : Wk fx t u) : Wk fx s u := fun ρ a w hr => by
  obtain ⟨ρ1, h1, g1⟩ := h ρ a w hr
  obtain ⟨ρ2, h2, g2⟩ := h' ρ1 a w h1
  exact ⟨ρ2, h2, g1.trans g2⟩

theorem least_ex {p : Nat → Prop} (h : ∃ n, p n) : ∃ n, p n ∧ ∀ m, p m → n ≤ m := by
  obtain ⟨n, hn⟩ := h
  induction n using Nat.strongRecOn with
  | _ n ih =>
    by_cases hm : ∃ m, m < n ∧ p m
    · obtain ⟨m, hlt, hp⟩ := hm
      exact ih m hlt hp
    · exact ⟨n, hn, fun m hp => Nat.le_of_not_lt fun hlt => hm ⟨m, hlt, hp⟩⟩

open Classical in
noncomputable def sInf' (p : Nat → Prop) : Nat := if h : ∃ n, p n then Classical.choose (least_ex h) else 0

theorem sInf'_spec {p : Nat → Prop} (h : ∃ n, p n) : p (sInf' p) ∧ ∀ m, p m → sInf' p ≤ m := by
  unfold sInf'
  rw [dif_pos h]
  exact Classical.choose_spec (least_ex h)

section
variable {P : Program} {T : TypeId → Ty} {fx bl : List Nat}

theorem awp_wk {c : Code} {Q : Exit → AS → Prop} {s t : AS} (h : Wk fx s t) (h' : awp P fx c Q t) : awp P fx c Q s := fun ρ a w hr => by
  obtain ⟨ρ1, h1, g1⟩ := h ρ a w hr
  exact wp_mono (h' ρ1 a w h1) fun e a' w' ⟨s', ρ', q1, q2, q3⟩ => ⟨s', ρ', q1, q2, g1.trans q3⟩

/-- What stands at a round's end. -/
def Lp {G : Type} (fx : List Nat) (I : G → Prop) (st : G → AS) (μ : G → Nat) (n : Nat) (Q : Exit → AS → Prop) (e : Exit) (s : AS) : Prop :=
  match e with
  | .normal => ∃ g, I g ∧ μ g < n ∧ Wk fx s (st g)
  | .exit i => Q (.exit i) s
  | .goto l => Q (.goto l) s
  | .ret => Q .ret s
  | .panic c => Q (.panic c) s
  | .outgrown => Q .outgrown s

/-- THE RULE FOR A LOOP: a state for each value of a ghost, a measure that every round lowers. -/
theorem awp_loop {c : Code} {Q : Exit → AS → Prop} {s : AS} {G : Type} (I : G → Prop) (st : G → AS) (μ : G → Nat) (g0 : G) (hI : I g0) (h0 : Wk fx s (st g0)) (round : ∀ g, I g → awp P fx c (Lp fx I st μ (μ g) Q) (st g)) :
    awp P fx (.loop c) Q s := fun ρ a w hr => by
  obtain ⟨ρ0, h1, k1⟩ := h0 ρ a w hr
  refine wp_loop (fun a' w' => ∃ g, I g ∧ ∃ ρ', Rel ρ' (st g) a' w' ∧ St fx ρ w ρ' w') (fun a' w' => sInf' fun n => ∃ g, μ g = n ∧ I g ∧ ∃ ρ', Rel ρ' (st g) a' w' ∧ St fx ρ w ρ' w') ⟨g0, hI, ρ0, h1, k1⟩ ?_
  intro a' w' ⟨g, hg, ρ', hr', hst⟩
  have hex : ∃ n, (fun n => ∃ g, μ g = n ∧ I g ∧ ∃ ρ', Rel ρ' (st g) a' w' ∧ St fx ρ w ρ' w') n := ⟨μ g, g, rfl, hg, ρ', hr', hst⟩
  obtain ⟨⟨g1, e1, hg1, ρ1, hr1, hst1⟩, hmin⟩ := sInf'_spec hex
  refine wp_mono (round g1 hg1 ρ1 a' w' hr1) fun e a'' w'' ⟨s', ρ'', q1, q2, q3⟩ => ?_
  cases e with
  | normal =>
    obtain ⟨g2, hg2, hlt, hwk⟩ := q1
    obtain ⟨ρ2, hr2, hst2⟩ := hwk ρ'' a'' w'' q2
    have hS : St fx ρ w ρ2 w'' := (hst1.trans q3).trans hst2
    refine ⟨⟨g2, hg2, ρ2, hr2, hS⟩, ?_⟩
    have hex2 : ∃ n, (fun n => ∃ g, μ g = n ∧ I g ∧ ∃ ρ', Rel ρ' (st g) a'' w'' ∧ St fx ρ w ρ' w'') n := ⟨μ g2, g2, rfl, hg2, ρ2, hr2, hS⟩
    have h3 := (sInf'_spec hex2).2 (μ g2) ⟨g2, rfl, hg2, ρ2, hr2, hS⟩
    rw [← e1]
    omega
  | _ => exact ⟨s', ρ'', q1, q2, hst1.trans q3⟩

/-! ### States weakened -/

mutual
/-- Only own blocks below m are named. -/
def AV.under (m : Nat) : AV → Bool
  | .any => true
  | .val _ => true
  | .agg l => underL m l
  | .tup l => underL m l
  | .sl _ => true
  | .ip _ => true
  | .ptr r _ => decide (r < m)
  | .vp r _ _ _ => decide (r < m)
  | .os r _ _ _ => decide (r < m)
  | .fn _ l => underL m l
def underL (m : Nat) : List AV → Bool
  | [] => true
  | x :: l => x.under m && underL m l
end

theorem under_mem {m : Nat} : ∀ {l : List AV} {x : AV}, underL m l = true → x ∈ l → x.under m = true
  | [], _, _, h => by cases h
  | y :: l, x, h, hx => by
    simp only [underL, Bool.and_eq_true] at h
    rcases List.mem_cons.1 hx with rfl | hx
    · exact h.1
    · exact under_mem h.2 hx

mutual
theorem AV.under_filt (m : Nat) : ∀ (x : AV), x.under m = true → x.filt (fun r => decide (r < m)) = x
  | .any, _ | .val _, _ | .sl _, _ | .ip _, _ => by simp [AV.filt]
  | .ptr r _, h | .vp r _ _ _, h | .os r _ _ _, h => by simp only [AV.under] at h; simp only [AV.filt]; rw [if_pos h]
  | .agg l, h | .tup l, h | .fn _ l, h => by simp only [AV.under] at h; simp only [AV.filt, underL_filt m l h]
theorem underL_filt (m : Nat) : ∀ (l : List AV), underL m l = true → filtL (fun r => decide (r < m)) l = l
  | [], _ => rfl
  | x :: l, h => by
    simp only [underL, Bool.and_eq_true] at h
    simp only [filtL, AV.under_filt m x h.1, underL_filt m l h.2]
end

def OB.under (m : Nat) : OB → Bool
  | .cells cs => underL m cs
  | .slab cs => underL m cs
  | _ => true

/-- One value may stand for another one. -/
def leAV (m : Nat) (x y : AV) : Prop := y = .any ∨ (x = y ∧ y.under m = true) ∨ (x = .val (.slice none 0 0) ∧ y = .sl [])

def leTm (m : Nat) : List AV → List AV → Prop
  | [], [] => True
  | x :: xs, y :: ys => leAV m x y ∧ leTm m xs ys
  | _, _ => False

def leL (m : Nat) : List OB → List OB → Prop
  | _, [] => True
  | o :: os, o' :: os' => o = o' ∧ o'.under m = true ∧ leL m os os'
  | [], _ :: _ => False

theorem leTm_get {m : Nat} : ∀ {xs ys : List AV}, leTm m xs ys → xs.length = ys.length ∧ ∀ (i : Nat) y, ys[i]? = some y → ∃ x, xs[i]? = some x ∧ leAV m x y
  | [], [], _ => ⟨rfl, by simp⟩
  | x :: xs, y :: ys, h => by
    obtain ⟨h1, h2⟩ := leTm_get h.2
    refine ⟨by simp [h1], fun i z hz => ?_⟩
    cases i with
    | zero => simp at hz; subst hz; exact ⟨x, rfl, h.1⟩
    | succ i => simpa using h2 i z (by simpa using hz)
  | [], _ :: _, h => by cases h
  | _ :: _, [], h => by cases h

theorem leL_get {m : Nat} : ∀ {os os' : List OB}, leL m os os' → os'.length ≤ os.length ∧ ∀ (i : Nat) o, os'[i]? = some o → os[i]? = some o ∧ o.under m = true
  | _, [], _ => ⟨by simp, by simp⟩
  | o :: os, o' :: os', h => by
    obtain ⟨h1, h2⟩ := leL_get h.2.2
    refine ⟨by simp [h1], fun i z hz => ?_⟩
    cases i with
    | zero => simp at hz; subst hz; exact ⟨by simp [h.1], h.2.1⟩
    | succ i => simpa using h2 i z (by simpa using hz)
  | [], _ :: _, h => by cases h

theorem Env.take_own {ρ : Env} {m b : Nat} (h : own { ρ with l := ρ.l.take m } b) : own ρ b := by
  rcases h with ⟨r, base, hr⟩ | h
  · simp only [List.getElem?_take] at hr
    split at hr
    · exact .l hr
    · cases hr
  · exact .inr h

/-- The rule for weakening: junk forgotten, the last own blocks dropped. -/
theorem wk_le {s t : AS} (h1 : leTm t.L.length s.tm t.tm) (h2 : leL t.L.length s.L t.L) (hfx : ∀ r ∈ fx, r < t.L.length) : Wk fx s t := fun ρ a w hr => by
  obtain ⟨l1, g1⟩ := leTm_get h1
  obtain ⟨l2, g2⟩ := leL_get h2
  generalize hm : t.L.length = m at *
  have hno : ∀ b, no { ρ with l := ρ.l.take m } b → no ρ b := fun b hb => by
    rcases hb with hb | hb
    · exact .inl (Env.take_own hb)
    · exact .inr hb
  have keep : ∀ v x, VR w ρ v x → x.under m = true → VR w { ρ with l := ρ.l.take m } v x := fun v x hv hx => by
    have := hv.mono (w' := w) (ρ' := { ρ with l := ρ.l.take m }) .refl (fun b _ hb => hno b hb) (fun r => decide (r < m)) (fun r l hp hl => by
      simp only [List.getElem?_take]
      rw [if_pos (by simpa using hp)]
      exact hl)
    rwa [AV.under_filt m x hx] at this
  refine ⟨{ ρ with l := ρ.l.take m }, ⟨hr.dfr, by rw [hr.size, l1], fun i v y h3 h4 => ?_, ⟨by simp; rw [hr.hr.len, hm]; omega, hr.hr.xlt, fun b hb => hr.hr.disj b (Env.take_own hb), fun r r' b base base' h3 h4 => ?_, fun r o l h3 h4 => ?_, ⟨hr.hr.t.lt, fun b r base ht h3 => ?_, fun r S items b h3 => hr.hr.t.sub r S items b (g2 r _ h3).1, fun r r' S S' items items' b h3 h4 => hr.hr.t.dis r r' S S' items items' b (g2 r _ h3).1 (g2 r' _ h4).1⟩⟩⟩, ⟨.refl, fun b _ hb => Env.take_own hb, fun r hrf x hx => ?_, rfl⟩⟩
  · obtain ⟨x, h5, h6⟩ := g1 i y h4
    rcases h6 with rfl | ⟨rfl, hb⟩ | ⟨rfl, rfl⟩
    · exact .pr (.any _)
    · exact keep _ _ (hr.tm i v x h3 h5) hb
    · have := val_inv (hr.tm i v _ h3 h5)
      subst this
      exact .pr (.slnil _ _)
  · simp only [List.getElem?_take] at h3 h4
    split at h3
    · split at h4
      · exact hr.hr.inj _ _ _ _ _ h3 h4
      · cases h4
    · cases h3
  · simp only [List.getElem?_take] at h4
    split at h4
    · obtain ⟨h5, h6⟩ := g2 r o h3
      have he := hr.hr.ent r o l h5 h4
      cases o with
      | dead => exact he
      | cells cs =>
        obtain ⟨b, c, e, q1, q2, q3, q4⟩ := he
        refine ⟨b, c, e, q1, q2, q3, fun i v x a1 a2 => keep _ _ (q4 i v x a1 a2) ?_⟩
        exact under_mem h6 (List.mem_of_getElem? a2)
      | slab cs =>
        rcases he with ⟨hz1, hz2⟩ | ⟨b, base0, c, e, q1, q2, q3, q4⟩
        · exact .inl ⟨hz1, by simpa using hz2⟩
        refine .inr ⟨b, base0, c, e, q1, q2, q3, fun i v x a1 a2 => keep _ _ (q4 i v x a1 a2) ?_⟩
        exact under_mem h6 (List.mem_of_getElem? a2)
      | vec k es =>
        obtain ⟨q0, ql, qd⟩ := he
        refine ⟨q0, ql, ?_⟩
        rcases qd with qd | ⟨b, base, c, e, q1, q2, q3, q4⟩
        · exact .inl qd
        · exact .inr ⟨b, base, c, e, q1, q2, q3, fun i j ei x a1 a2 => let ⟨v, a3, a4⟩ := q4 i j ei x a1 a2; ⟨v, a3, a4.mono (fun _ _ _ => rfl) (Nat.le_refl _) (fun b _ hb => hno b hb)⟩⟩
      | forest S items => exact he
    · cases h4
  · simp only [List.getElem?_take] at h3
    split at h3
    · exact hr.hr.t.dl b r base ht h3
    · cases h3
  · simp only [List.getElem?_take]
    rw [if_pos (hfx r hrf)]
    exact hx

end

end Go.Pc

/- The abstract logic, ninth part: regions that draw their order: the quiet operations at the head in whatever order, the others behind them in theirs. -/
namespace Go.Pc
open Go

section
variable {P : Program} {T : TypeId → Ty} {fx bl : List Nat}

/-- One operation of the head, with what it yields: it runs and yields r, or its guard is shut. -/
def QFact (P : Program) (all : List Oper) (L : List OB) (o : Oper) (tm : List AV) (r : AV) : Prop :=
  ((o.guard = none ∨ ∃ g want, o.guard = some (g, want) ∧ gBool all ⟨tm, L⟩ g = some (some want)) ∧ QOK P o ⟨tm, L⟩ r) ∨
  (r = .val undef ∧ ∃ g want y, o.guard = some (g, want) ∧ gBool all ⟨tm, L⟩ g = some y ∧ y ≠ some want)

def putTm (tm : List AV) (dst : Option Tmp) (r : AV) : List AV :=
  match dst with
  | some d => tm.set d r
  | none => tm

inductive QRun (P : Program) (all : List Oper) (L : List OB) : List Oper → List AV → List AV → List AV → Prop
  | nil (tm) : QRun P all L [] tm tm []
  | cons {o rest tm r tm' rs} (h : QFact P all L o tm r) (h' : QRun P all L rest (putTm tm o.dst r) tm' rs) : QRun P all L (o :: rest) tm tm' (r :: rs)

/-- The quiet walk of the head, n operations, in the order of the text. -/
def sxQs (P : Program) (T : TypeId → Ty) (all : List Oper) : Nat → List Oper → AS → (AS → Prop) → Prop
  | 0, _, s, K => K s
  | _ + 1, [], s, K => K s
  | n + 1, o :: rest, s, K =>
    match o.guard with
    | none => qOp P T o.op s (fun r => sxQs P T all n rest (s.put o.dst r) K)
    | some (g, want) =>
      match gBool all s g with
      | some (some b) => (b = want → qOp P T o.op s (fun r => sxQs P T all n rest (s.put o.dst r) K)) ∧ (b = !want → sxQs P T all n rest (s.put o.dst (.val undef)) K)
      | some none => sxQs P T all n rest (s.put o.dst (.val undef)) K
      | none => False

theorem put_putTm (s : AS) (dst : Option Tmp) (r : AV) : s.put dst r = ⟨putTm s.tm dst r, s.L⟩ := by
  cases dst <;> rfl

theorem qrun_of (hT : TTOk P T) (all : List Oper) {K : AS → Prop} : ∀ (n : Nat) (l : List Oper) (s : AS), sxQs P T all n l s K → ∃ tm' rs, QRun P all s.L (l.take n) s.tm tm' rs ∧ K ⟨tm', s.L⟩
  | 0, l, s, h => ⟨s.tm, [], .nil _, h⟩
  | n + 1, [], s, h => ⟨s.tm, [], .nil _, h⟩
  | n + 1, o :: rest, s, h => by
    have go : qOp P T o.op s (fun r => sxQs P T all n rest (s.put o.dst r) K) → (o.guard = none ∨ ∃ g want, o.guard = some (g, want) ∧ gBool all ⟨s.tm, s.L⟩ g = some (some want)) →
        ∃ tm' rs, QRun P all s.L ((o :: rest).take (n + 1)) s.tm tm' rs ∧ K ⟨tm', s.L⟩ := fun hq hg => by
      obtain ⟨r, hr, hq⟩ := qOp_sound hT hq
      rw [put_putTm] at hr
      obtain ⟨tm', rs, h1, h2⟩ := qrun_of hT all n rest _ hr
      exact ⟨tm', r :: rs, .cons (.inl ⟨hg, hq⟩) h1, h2⟩
    have skip : sxQs P T all n rest (s.put o.dst (.val undef)) K → (∃ g want y, o.guard = some (g, want) ∧ gBool all ⟨s.tm, s.L⟩ g = some y ∧ y ≠ some want) →
        ∃ tm' rs, QRun P all s.L ((o :: rest).take (n + 1)) s.tm tm' rs ∧ K ⟨tm', s.L⟩ := fun hr hg => by
      rw [put_putTm] at hr
      obtain ⟨tm', rs, h1, h2⟩ := qrun_of hT all n rest _ hr
      exact ⟨tm', _ :: rs, .cons (.inr ⟨rfl, hg⟩) h1, h2⟩
    simp only [sxQs] at h
    cases hg : o.guard with
    | none => rw [hg] at h; exact go h (.inl hg)
    | some gw =>
      obtain ⟨g, want⟩ := gw
      rw [hg] at h
      simp only at h
      split at h
      · rename_i b hb
        by_cases hbw : b = want
        · exact go (h.1 hbw) (.inr ⟨g, want, hg, by rw [← hbw]; exact hb⟩)
        · exact skip (h.2 (by cases b <;> cases want <;> simp_all)) ⟨g, want, some b, hg, hb, by simpa using hbw⟩
      · rename_i hb
        exact skip h ⟨g, want, none, hg, hb, by simp⟩
      · cases h

/-- The temporaries when some of the head's operations have been carried out. -/
def tmOf (ops : List Oper) (rs : List AV) (tm0 : List AV) (p : Nat → Bool) (n : Nat) : List AV :=
  match n with
  | 0 => tm0
  | n + 1 => if p n then (match ops[n]? with | some o => putTm (tmOf ops rs tm0 p n) o.dst (rs.getD n .any) | none => tmOf ops rs tm0 p n) else tmOf ops rs tm0 p n

theorem putTm_len (tm : List AV) (d : Option Tmp) (r : AV) : (putTm tm d r).length = tm.length := by cases d <;> simp [putTm]

theorem tmOf_len (ops : List Oper) (rs : List AV) (tm0 : List AV) (p : Nat → Bool) : ∀ n, (tmOf ops rs tm0 p n).length = tm0.length
  | 0 => rfl
  | n + 1 => by
    simp only [tmOf]
    split
    · split
      · rw [putTm_len, tmOf_len ops rs tm0 p n]
      · exact tmOf_len ops rs tm0 p n
    · exact tmOf_len ops rs tm0 p n

theorem putTm_ne {tm : List AV} {d : Option Tmp} {r : AV} {t : Nat} (h : d ≠ some t) : (putTm tm d r)[t]? = tm[t]? := by
  cases d with
  | none => rfl
  | some d => simp only [putTm]; rw [List.getElem?_set_ne (fun e => h (by rw [e]))]

/-- What a temporary holds hangs on those alone that write it. -/
theorem tmOf_congr (ops : List Oper) (rs : List AV) (tm0 : List AV) (p q : Nat → Bool) (t : Nat) : ∀ n, (∀ k, k < n → ∀ o, ops[k]? = some o → o.dst = some t → p k = q k) → (tmOf ops rs tm0 p n)[t]? = (tmOf ops rs tm0 q n)[t]?
  | 0, _ => rfl
  | n + 1, h => by
    have ih := tmOf_congr ops rs tm0 p q t n (fun k hk => h k (by omega))
    simp only [tmOf]
    cases ho : ops[n]? with
    | none => simp only []; split <;> split <;> exact ih
    | some o =>
      simp only []
      by_cases hd : o.dst = some t
      · have hpq := h n (by omega) o ho hd
        rw [hpq]
        split
        · rw [hd]
          simp only [putTm, List.getElem?_set, tmOf_len, if_true]
        · exact ih
      · have e1 : ∀ tm : List AV, (putTm tm o.dst (rs.getD n .any))[t]? = tm[t]? := fun tm => putTm_ne hd
        split <;> split <;> (try simp only [e1]) <;> exact ih

theorem tmOf_wr (ops : List Oper) (rs : List AV) (tm0 : List AV) (p : Nat → Bool) (t : Nat) {i : Nat} {o : Oper} (ho : ops[i]? = some o) (hd : o.dst = some t) (hp : p i = true) (ht : t < tm0.length) : ∀ n, i < n →
    (∀ k, i < k → k < n → ∀ o', ops[k]? = some o' → o'.dst = some t → p k = false) → (tmOf ops rs tm0 p n)[t]? = some (rs.getD i .any)
  | 0, hi, _ => by omega
  | n + 1, hi, h => by
    simp only [tmOf]
    by_cases hin : i = n
    · subst hin
      rw [if_pos hp, ho]
      simp only []
      rw [hd]
      simp only [putTm]
      rw [List.getElem?_set_self (by rw [tmOf_len]; exact ht)]
    · have ih := tmOf_wr ops rs tm0 p t ho hd hp ht n (by omega) (fun k h1 h2 => h k h1 (by omega))
      split
      · rename_i hpn
        cases ho' : ops[n]? with
        | none => exact ih
        | some o' =>
          simp only []
          have : o'.dst ≠ some t := fun hd' => by
            have := h n (by omega) (by omega) o' ho' hd'
            rw [this] at hpn; cases hpn
          rw [putTm_ne this]
          exact ih
      · exact ih

/-- The run's facts, operation by operation. -/
theorem qrun_facts {all : List Oper} {L : List OB} : ∀ (l : List Oper) (tm tm' : List AV) (rs : List AV), QRun P all L l tm tm' rs → ∀ (ops : List Oper) (rs0 : List AV) (tm0 : List AV) (k : Nat), tm = tmOf ops (rs0 ++ rs) tm0 (fun _ => true) k → rs0.length = k →
    (∀ j, j < l.length → ops[k + j]? = l[j]?) → tm' = tmOf ops (rs0 ++ rs) tm0 (fun _ => true) (k + l.length) ∧ ∀ j o, l[j]? = some o → QFact P all L o (tmOf ops (rs0 ++ rs) tm0 (fun _ => true) (k + j)) ((rs0 ++ rs).getD (k + j) .any) := by
  intro l tm tm' rs h
  induction h with
  | nil tm => intro ops rs0 tm0 k h1 h2 h3; exact ⟨by simpa using h1, by simp⟩
  | @cons o rest tm r tm' rs hf hrun ih =>
    intro ops rs0 tm0 k h1 h2 h3
    have e1 : rs0 ++ r :: rs = (rs0 ++ [r]) ++ rs := by simp
    have hr : (rs0 ++ r :: rs).getD k .any = r := by
      rw [List.getD_eq_getElem?_getD, List.getElem?_append_right (by omega), h2]; simp
    have ho : ops[k]? = some o := by simpa using h3 0 (by simp)
    have hnext : putTm tm o.dst r = tmOf ops ((rs0 ++ [r]) ++ rs) tm0 (fun _ => true) (k + 1) := by
      rw [← e1]
      simp only [tmOf, if_true, ho, hr]
      rw [h1]
    obtain ⟨g1, g2⟩ := ih ops (rs0 ++ [r]) tm0 (k + 1) hnext (by simp [h2]) (fun j hj => by have := h3 (j + 1) (by simpa using hj); simpa [Nat.add_assoc, Nat.add_comm 1 j] using this)
    rw [← e1] at g1 g2
    refine ⟨by rw [g1]; congr 1; simp; omega, fun j o' ho' => ?_⟩
    cases j with
    | zero =>
      simp at ho'
      subst ho'
      rw [Nat.add_zero, ← h1, hr]
      exact hf
    | succ j =>
      have := g2 j o' (by simpa using ho')
      rw [show k + (j + 1) = k + 1 + j by omega]
      exact this

/-- No two of the head's operations touch one temporary but in a bound order. -/
def headB (ops : Array Oper) (n : Nat) : Bool :=
  (List.range n).all fun j =>
    match ops[j]? with
    | none => false
    | some oj => (oj.after.all fun e => !Region.binds .any e || decide (e.on < j)) &&
      (List.range j).all fun i =>
        match ops[i]? with
        | none => false
        | some oi => oj.after.any (fun e => Region.binds .any e && e.on == i) || oi.apart ops oj

theorem headB_spec {ops : Array Oper} {n : Nat} (h : headB ops n = true) : (∀ j, j < n → ∃ oj, ops[j]? = some oj ∧ ∀ e ∈ oj.after, Region.binds .any e = true → e.on < j) ∧
    ∀ i j oi oj, i < j → j < n → ops[i]? = some oi → ops[j]? = some oj → (∃ e ∈ oj.after, Region.binds .any e = true ∧ e.on = i) ∨ oi.apart ops oj = true := by
  simp only [headB, List.all_eq_true, List.mem_range] at h
  refine ⟨fun j hj => ?_, fun i j oi oj hij hj hoi hoj => ?_⟩
  · have := h j hj
    cases ho : ops[j]? with
    | none => simp [ho] at this
    | some oj =>
      rw [ho] at this
      simp only [Bool.and_eq_true] at this
      refine ⟨oj, rfl, fun e he hb => ?_⟩
      have := Array.all_eq_true_iff_forall_mem.1 this.1 e he
      simpa [hb] using this
  · have := h j hj
    rw [hoj] at this
    simp only [Bool.and_eq_true, List.all_eq_true, List.mem_range] at this
    have := this.2 i hij
    rw [hoi] at this
    simp only [Bool.or_eq_true] at this
    rcases this with h' | h'
    · obtain ⟨e, he, hb⟩ := Array.any_eq_true'.1 h'
      simp only [Bool.and_eq_true, beq_iff_eq] at hb
      exact .inl ⟨e, he, hb.1, hb.2⟩
    · exact .inr h'

theorem countP_set (p q : Nat → Bool) (i : Nat) (hp : p i = true) (hq : q i = false) (h : ∀ k, k ≠ i → q k = p k) : ∀ n, i < n → (List.range n).countP q + 1 = (List.range n).countP p
  | 0, hi => by omega
  | n + 1, hi => by
    rw [List.range_succ, List.countP_append, List.countP_append]
    by_cases hin : i = n
    · subst hin
      have : (List.range i).countP q = (List.range i).countP p := List.countP_congr fun k hk => by rw [h k (by have := List.mem_range.1 hk; omega)]
      rw [this]
      simp [hp, hq]
    · have ih := countP_set p q i hp hq h n (by omega)
      have e : List.countP q [n] = List.countP p [n] := List.countP_congr fun k hk => by
        have : k = n := by simpa using hk
        rw [h k (by omega)]
      omega

theorem wpList_post {ops : Array Oper} {Q Q' : Exit → Act → World → Prop} : ∀ {l : List Oper} {a : Act} {w : World}, wpList P ops Q l a w → (∀ e a w, Q e a w → Q' e a w) → wpList P ops Q' l a w
  | [], _, _, h, hq => hq _ _ _ h
  | o :: l, a, w, h, hq => by
    unfold wpList at h ⊢
    split
    · rename_i hw
      rw [if_pos hw] at h
      rcases h with h | ⟨h1, a0, w0, h2⟩
      · refine .inl ?_
        have h' := Oper.wp_mono (Q := Q) (fun a w (hh : wpList P ops Q l a w) => wpList_post hh hq) h
        unfold Oper.wp at h' ⊢
        generalize (execOp a.eval o).run P w = r at h'
        cases r with
        | ok n w' =>
          cases n <;> simp only [Oper.upon] at h' ⊢ <;> first
            | exact h'
            | exact h'.mono fun e w'' he => by cases e <;> first | exact he | exact hq _ _ _ he | (obtain ⟨a1, w1, h3⟩ := he; exact ⟨a1, w1, hq _ _ _ h3⟩)
        | halt x w' => cases x <;> simp only [Oper.upon] at h' ⊢ <;> first | exact h' | exact hq _ _ _ h'
      · exact .inr ⟨h1, a0, w0, hq _ _ _ h2⟩
    · rename_i hw
      rw [if_neg hw] at h
      exact wpList_post h hq

def unl (size : Nat) (listed : Array Bool) : Nat := (List.range size).countP fun k => !listed.getD k true

theorem looks_ops {ops : Array Oper} {o : Oper} {t : Tmp} (h : Operand.tmp t ∈ o.op.operands) : t ∈ o.looksAt ops :=
  List.mem_append_left _ (List.mem_filterMap.2 ⟨.tmp t, by simpa using h, rfl⟩)

theorem looks_guard {ops : Array Oper} {o : Oper} {g : Nat} {want : Bool} {d : Tmp} (h : o.guard = some (g, want)) (hd : (ops[g]?).bind (·.dst) = some d) : d ∈ o.looksAt ops :=
  List.mem_append_right _ (by simp [h, hd])

/-- THE RULE FOR A REGION THAT DRAWS ITS ORDER: the first n operations are quiet and are walked in the order of the text; what stands behind them goes in its own order. -/
theorem awp_drawQ (hT : TTOk P T) (hm : P.follows .mixedOrders = true) {id : Nat} {ops : List Oper} {Q : Exit → AS → Prop} {s : AS} (n : Nat) (hn : n ≤ ops.length) (hB : headB ops.toArray n = true)
    (htail : n = ops.length ∨ (Region.sinkB .any ops.toArray n = true ∧ Region.chainB .any ops.toArray n = true))
    (hseq : Region.seqB .any ops.toArray (ops.length - n) n ((List.range ops.length).map (fun k => decide (k < n))).toArray = true)
    (h : ∃ tm' rs, QRun P ops s.L (ops.take n) s.tm tm' rs ∧ sxOps P T fx bl ops (ops.drop n) ⟨tm', s.L⟩ (Q .normal)) : awp P fx (.region id ops.toArray true) Q s := by
  obtain ⟨tm', rs, hrun, hK⟩ := h
  obtain ⟨hrdy, hpair⟩ := headB_spec hB
  obtain ⟨hfin, hfacts⟩ := qrun_facts (ops.take n) s.tm tm' rs hrun ops [] s.tm 0 rfl rfl (fun j hj => by rw [Nat.zero_add, List.getElem?_take_of_lt (by simp at hj; omega)])
  simp only [List.nil_append, Nat.zero_add, List.length_take, Nat.min_eq_left hn] at hfin hfacts
  have hfact : ∀ i, i < n → ∀ o, ops[i]? = some o → QFact P ops s.L o (tmOf ops rs s.tm (fun _ => true) i) (rs.getD i .any) := fun i hi o ho => hfacts i o (by rw [List.getElem?_take_of_lt hi]; exact ho)
  intro ρ a w hr
  refine wp_region_any hm ?_
  have hsz : ops.toArray.size = ops.length := by simp
  -- the statement for whatever has been carried out
  have key : ∀ (fuel : Nat) (listed : Array Bool) (a' : Act) (w' : World), unl ops.length listed = fuel → HeadInv .any ops.toArray n listed → Grow w w' → a'.defers = [] → a'.tmps.size = s.tm.length →
      (∀ (t : Nat) v x, a'.tmps[t]? = some v → (tmOf ops rs s.tm (fun k => listed.getD k false) n)[t]? = some x → VR w' ρ v x) →
      wpAny P .any ops.toArray (fun e a' w' => ∃ s' ρ', Q e s' ∧ Rel ρ' s' a' w' ∧ St fx ρ w ρ' w') fuel listed a' w' := by
    intro fuel
    induction fuel using Nat.strongRecOn with
    | _ fuel ih =>
    intro listed a' w' hfuel inv hg hd hs htm
    by_cases hall : ∀ i, i < n → listed.getD i false = true
    · -- the head is done
      have hlisted : listed = ((List.range ops.length).map (fun k => decide (k < n))).toArray := by
        apply Array.ext
        · rw [inv.size]; simp
        · intro i h1 h2
          simp at h2
          simp only [List.getElem_toArray, List.getElem_map, List.getElem_range]
          by_cases hi : i < n
          · have := hall i hi
            rw [Array.getD_eq_getD_getElem?, Array.getElem?_eq_getElem h1] at this
            simp at this
            simp [this, hi]
          · have := inv.tail i (by omega) (by rw [hsz]; exact h2)
            rw [Array.getD_eq_getD_getElem?, Array.getElem?_eq_getElem h1] at this
            simp at this
            simp [this, hi]
      have hcnt : fuel = (ops.drop n).length := by
        rw [← hfuel, hlisted]
        have : ∀ m, n ≤ m → m ≤ ops.length → (List.range m).countP (fun k => !(((List.range ops.length).map (fun k => decide (k < n))).toArray).getD k true) = m - n := by
          intro m
          induction m with
          | zero => intro h1 _; simp
          | succ m ihm =>
            intro h1 h2
            by_cases hmn : n ≤ m
            · rw [List.range_succ, List.countP_append, ihm hmn (by omega)]
              have hlt : m < ops.length := by omega
              have : ¬ m < n := by omega
              simp [hlt, this]
              omega
            · have hnm : n = m + 1 := by omega
              rw [← hnm]
              rw [List.countP_eq_zero.2, Nat.sub_self]
              intro k hk
              have hk' := List.mem_range.1 hk
              have : k < ops.length := by omega
              simp [this, hk']
        have := this ops.length hn (Nat.le_refl _)
        simp only [unl]
        rw [this]
        simp
      rw [hcnt]
      have hsq := hseq
      rw [show ops.length - n = (ops.drop n).length by simp] at hsq
      rw [hlisted]
      refine wpAny_of_seq (ops.drop n) n _ a' w' (fun j => by simp [List.getElem?_drop]) hsq ?_
      have hrel : Rel ρ ⟨tm', s.L⟩ a' w' := ⟨hd, by rw [hs, hfin, tmOf_len], fun t v x h1 h2 => htm t v x h1 (by
        rw [hfin] at h2
        rw [← h2]
        exact tmOf_congr ops rs s.tm _ _ t n fun k hk o _ _ => hall k hk), hr.hr.grow hg⟩
      have := sxOps_sound (fx := fx) hT ops (ops.drop n) ⟨tm', s.L⟩ ρ a' w' hK hrel (St.grow (fx := fx) hg)
      refine wpList_post this fun e a'' w'' ⟨s', ρ', q1, q2⟩ => ?_
      cases e <;> first | exact ⟨s', ρ', q1, q2⟩ | cases q1
    · -- some of the head is still to come
      have hex : ∃ i, i < n ∧ listed.getD i false = false := by
        refine Classical.byContradiction fun hc => hall fun i hi => ?_
        cases hl : listed.getD i false with
        | true => rfl
        | false => exact absurd ⟨i, hi, hl⟩ hc
      obtain ⟨i0, ⟨hi0, hl0⟩, hmin⟩ := least_ex hex
      have hin : ∀ i, i < n → i < listed.size := fun i hi => by rw [inv.size, hsz]; omega
      have hready0 : i0 ∈ Region.ready .any ops.toArray listed := by
        obtain ⟨o0, ho0, he0⟩ := hrdy i0 hi0
        refine mem_ready.2 ⟨getD_in (hin _ hi0) hl0, o0, ho0, fun e he hb => ?_⟩
        have := he0 e he hb
        cases hl : listed.getD e.on false with
        | true => rfl
        | false => have := hmin e.on ⟨by omega, hl⟩; omega
      have hheads : ∀ i, i ∈ Region.ready .any ops.toArray listed → i < n := fun i hi => by
        rcases Nat.lt_or_ge i n with h' | h'
        · exact h'
        · rcases htail with hnl | ⟨hs1, hs2⟩
          · obtain ⟨_, o, ho, _⟩ := mem_ready.1 hi
            have := (Array.getElem?_eq_some_iff.1 ho).1
            rw [hsz] at this
            omega
          · have hnlt : n < ops.toArray.size := by
              obtain ⟨_, o, ho, _⟩ := mem_ready.1 hi
              have := (Array.getElem?_eq_some_iff.1 ho).1
              omega
            exact absurd hi (tail_waits hs1 hs2 hnlt inv _ i0 rfl hi0 (getD_in (hin _ hi0) hl0) i h')
      have step : ∀ i ∈ Region.ready .any ops.toArray listed, wpOp P ops.toArray (fun e a' w' => ∃ s' ρ', Q e s' ∧ Rel ρ' s' a' w' ∧ St fx ρ w ρ' w') i
          (wpAny P .any ops.toArray (fun e a' w' => ∃ s' ρ', Q e s' ∧ Rel ρ' s' a' w' ∧ St fx ρ w ρ' w') (fuel - 1) (listed.setIfInBounds i true)) a' w' ∧ 0 < fuel := fun i hi => by
        have hin' := hheads i hi
        obtain ⟨hun, o, ho, hedge⟩ := mem_ready.1 hi
        have ho' : ops[i]? = some o := by simpa using ho
        have hunf : listed.getD i false = false := getD_both hun
        -- the writers of what it looks at
        have wr : ∀ t, t ∈ o.looksAt ops.toArray → ∀ k, k < n → ∀ ok, ops[k]? = some ok → ok.dst = some t → listed.getD k false = decide (k < i) := fun t ht k hk ok hok hdst => by
          have hok' : ops.toArray[k]? = some ok := by simpa using hok
          rcases Nat.lt_trichotomy k i with hlt | heq | hgt
          · rcases hpair k i ok o hlt hin' hok' ho with ⟨e, he, hb, hon⟩ | hap
            · have := hedge e he hb
              rw [hon] at this
              simp [this, hlt]
            · exact absurd ht ((Oper.apart_spec hap).1 t hdst)
          · subst heq
            simp [hunf]
          · rcases hpair i k o ok hgt hk ho hok' with ⟨e, he, hb, hon⟩ | hap
            · cases hl : listed.getD k false with
              | true =>
                have := inv.closed k ok hok' hl e he hb
                rw [hon, hunf] at this
                cases this
              | false => simp; omega
            · exact absurd ht ((Oper.apart_spec hap).2.2 t hdst)
        have same : ∀ t, t ∈ o.looksAt ops.toArray → (tmOf ops rs s.tm (fun k => listed.getD k false) n)[t]? = (tmOf ops rs s.tm (fun _ => true) i)[t]? := fun t ht => by
          rw [tmOf_congr ops rs s.tm (fun k => listed.getD k false) (fun k => decide (k < i)) t n (fun k hk ok hok hdst => wr t ht k hk ok hok hdst)]
          clear ih htm hready0 hfuel
          have : ∀ m, i ≤ m → tmOf ops rs s.tm (fun k => decide (k < i)) m = tmOf ops rs s.tm (fun _ => true) i := by
            intro m
            induction m with
            | zero => intro h1; have : i = 0 := by omega
                      subst this; rfl
            | succ m ihm =>
              intro h1
              by_cases him : i ≤ m
              · simp only [tmOf]
                rw [if_neg (by simp; omega), ihm him]
              · have : i = m + 1 := by omega
                subst this
                clear ihm h1 him
                have : ∀ j, j ≤ m + 1 → tmOf ops rs s.tm (fun k => decide (k < m + 1)) j = tmOf ops rs s.tm (fun _ => true) j := by
                  intro j
                  induction j with
                  | zero => intro _; rfl
                  | succ j ihj =>
                    intro hj
                    simp only [tmOf]
                    rw [if_pos (by simp; omega), ihj (by omega)]
                    simp
                exact this _ (Nat.le_refl _)
          rw [this n (by omega)]
        have hHR : HR w' ρ s.L := hr.hr.grow hg
        have hev : ∀ t, t ∈ o.looksAt ops.toArray → VR w' ρ (a'.eval (.tmp t)) ((⟨tmOf ops rs s.tm (fun _ => true) i, s.L⟩ : AS).ev (.tmp t)) := fun t ht => by
          simp only [Act.eval, AS.ev]
          rcases Nat.lt_or_ge t s.tm.length with hlt | hge
          · have h1 : (tmOf ops rs s.tm (fun k => listed.getD k false) n)[t]? = some ((tmOf ops rs s.tm (fun k => listed.getD k false) n)[t]'(by rw [tmOf_len]; exact hlt)) := List.getElem?_eq_getElem _
            have h2 : a'.tmps[t]? = some (a'.tmps[t]'(by rw [hs]; exact hlt)) := Array.getElem?_eq_getElem _
            have := htm t _ _ h2 h1
            rw [List.getD_eq_getElem?_getD, ← same t ht, h1, Array.getD_eq_getD_getElem?, h2]
            exact this
          · rw [List.getD_eq_getElem?_getD, List.getElem?_eq_none (by rw [tmOf_len]; exact hge)]
            exact .pr (.any _)
        have hgb : ∀ g want y, o.guard = some (g, want) → gBool ops ⟨tmOf ops rs s.tm (fun _ => true) i, s.L⟩ g = some y → yielded ops.toArray a'.tmps g = y := fun g want y hgd hgy => by
          unfold gBool at hgy
          unfold yielded
          simp only [List.getElem?_toArray]
          split at hgy
          · rename_i hdn; cases hgy; simp [hdn]
          · rename_i d hdn
            have hlook : d ∈ o.looksAt ops.toArray := looks_guard hgd (by simpa using hdn)
            rw [hdn]
            simp only [Option.bind_some]
            rw [← same d hlook] at hgy
            split at hgy
            · rename_i b hb
              cases hgy
              have hlt : d < a'.tmps.size := by rw [hs, ← tmOf_len ops rs s.tm (fun k => listed.getD k false) n]; exact (List.getElem?_eq_some_iff.1 hb).1
              have hv := Array.getElem?_eq_getElem hlt
              have := val_inv (htm d _ _ hv hb)
              rw [hv, this]
            · rename_i v hnb hb
              cases hgy
              have hlt : d < a'.tmps.size := by rw [hs, ← tmOf_len ops rs s.tm (fun k => listed.getD k false) n]; exact (List.getElem?_eq_some_iff.1 hb).1
              have hv := Array.getElem?_eq_getElem hlt
              have := val_inv (htm d _ _ hv hb)
              rw [hv, this]
              cases v <;> first | rfl | exact absurd rfl (hnb _)
            · rename_i hnn
              cases hgy
              have : a'.tmps[d]? = none := by
                rw [Array.getElem?_eq_none_iff, hs, ← tmOf_len ops rs s.tm (fun k => listed.getD k false) n]
                exact List.getElem?_eq_none_iff.1 hnn
              rw [this]
            · cases hgy
        have hpos : unl ops.length (listed.setIfInBounds i true) + 1 = unl ops.length listed := by
          refine countP_set _ _ i (by simp only [hun]; rfl) ?_ (fun k hk => ?_) _ (by omega)
          · rw [Array.getD_eq_getD_getElem?, Array.getElem?_setIfInBounds_self_of_lt (hin _ hin')]; rfl
          · show (!(listed.setIfInBounds i true).getD k true) = !listed.getD k true
            rw [getD_set_ne true (Ne.symm hk)]
        -- what stands behind it
        have cont : ∀ v w'', VR w'' ρ v (rs.getD i .any) → Grow w' w'' → wpAny P .any ops.toArray (fun e a' w' => ∃ s' ρ', Q e s' ∧ Rel ρ' s' a' w' ∧ St fx ρ w ρ' w') (fuel - 1) (listed.setIfInBounds i true) (a'.put o.dst v) w'' := fun v w'' hv hg' => by
          refine ih (fuel - 1) (by omega) _ _ _ (by omega) (inv.set hi hin') (Fr.trans (o' := fun _ => False) hg hg' (fun _ h => False.elim h)) (by cases o.dst <;> exact hd) (by cases o.dst <;> simp [Act.put, hs]) fun t u x h1 h2 => ?_
          by_cases hdt : o.dst = some t
          · have hwv : (tmOf ops rs s.tm (fun k => (listed.setIfInBounds i true).getD k false) n)[t]? = some (rs.getD i .any) := by
              have htl : t < s.tm.length := by
                rw [← tmOf_len ops rs s.tm (fun k => (listed.setIfInBounds i true).getD k false) n]
                exact (List.getElem?_eq_some_iff.1 h2).1
              refine tmOf_wr ops rs s.tm _ t ho' hdt ?_ htl n hin' fun k h3 h4 ok hok hdst => ?_
              · rw [Array.getD_eq_getD_getElem?, Array.getElem?_setIfInBounds_self_of_lt (hin _ hin')]; rfl
              · have hok' : ops.toArray[k]? = some ok := by simpa using hok
                rw [getD_set_ne false (by omega)]
                rcases hpair i k o ok h3 h4 ho hok' with ⟨e, he, hb, hon⟩ | hap
                · cases hl : listed.getD k false with
                  | true =>
                    have := inv.closed k ok hok' hl e he hb
                    rw [hon, hunf] at this
                    cases this
                  | false => rfl
                · exact absurd hdst ((Oper.apart_spec hap).2.1 t hdt)
            rw [hwv] at h2
            cases h2
            rw [hdt] at h1
            simp only [Act.put] at h1
            have htl : t < a'.tmps.size := by
              have := (Array.getElem?_eq_some_iff.1 h1).1
              simpa using this
            rw [Array.getElem?_setIfInBounds_self_of_lt htl] at h1
            cases h1
            exact hv
          · have h3 : a'.tmps[t]? = some u := by
              cases hdd : o.dst with
              | none => rw [hdd] at h1; exact h1
              | some d =>
                rw [hdd] at h1
                simp only [Act.put] at h1
                rw [Array.getElem?_setIfInBounds_ne (fun e => hdt (by rw [hdd, e]))] at h1
                exact h1
            have h4 : (tmOf ops rs s.tm (fun k => listed.getD k false) n)[t]? = some x := by
              rw [← h2]
              refine tmOf_congr ops rs s.tm _ _ t n fun k hk ok hok hdst => ?_
              by_cases hki : k = i
              · subst hki
                rw [ho'] at hok; cases hok
                exact absurd hdst hdt
              · rw [getD_set_ne false (Ne.symm hki)]
            exact (htm t u x h3 h4).grow hg'
        refine ⟨?_, by omega⟩
        unfold wpOp
        rw [ho]
        simp only []
        rcases hfact i hin' o ho' with ⟨hgd, hq⟩ | ⟨hru, g, want, y, hgd, hgy, hne⟩
        · have hw : Region.wanted o (yielded ops.toArray a'.tmps) = true := by
            rcases hgd with hgd | ⟨g, want, hgd, hgy⟩
            · simp [Region.wanted, hgd]
            · simp [Region.wanted, hgd, hgb g want _ hgd hgy]
          rw [if_pos hw]
          refine .inl (wp_of_out ((hq ρ a' w' hHR fun x hx => ?_).mono fun v w'' ⟨h1, h2⟩ => cont v w'' h1 h2))
          cases x with
          | tmp t => exact hev t (looks_ops hx)
          | const v => exact .ofV v
          | global g => exact .pr (.any _)
          | func f => exact .fn f #[] [] rfl (by simp)
        · have hw : Region.wanted o (yielded ops.toArray a'.tmps) = false := by
            simp only [Region.wanted, hgd, hgb g want _ hgd hgy]
            simpa using hne
          rw [if_neg (by simp [hw])]
          exact cont undef w' (by rw [hru]; exact .pr (.val _)) .refl
      cases fuel with
      | zero => exact absurd (step i0 hready0).2 (by omega)
      | succ fuel => exact ⟨fun h0 => (by rw [h0] at hready0; cases hready0), fun i hi => (step i hi).1⟩
  have hw1 : Grow w w.drew := Grow.drew
  refine key _ _ _ _ ?_ ⟨by simp, fun j oj hj hl => ?_, fun t h1 h2 => ?_⟩ hw1 hr.dfr hr.size fun t v x h1 h2 => ?_
  · rw [hsz]
    simp only [unl]
    rw [List.countP_eq_length.2 (fun k hk => ?_)]
    · simp
    · have := List.mem_range.1 hk
      simp [this]
  · rw [getD_replicate_false] at hl; cases hl
  · rw [hsz] at h2; simp [h2]
  · have : ∀ m, tmOf ops rs s.tm (fun k => (Array.replicate ops.toArray.size false).getD k false) m = s.tm := by
      intro m
      induction m with
      | zero => rfl
      | succ m ihm =>
        simp only [tmOf]
        rw [if_neg (by rw [getD_replicate_false]; simp)]
        exact ihm
    rw [this] at h2
    exact (hr.tm t v x h1 h2).grow hw1

theorem awp_draw (hT : TTOk P T) (hm : P.follows .mixedOrders = true) {id : Nat} {ops : List Oper} {Q : Exit → AS → Prop} {s : AS} (n : Nat) (hn : n ≤ ops.length) (hB : headB ops.toArray n = true)
    (htail : n = ops.length ∨ (Region.sinkB .any ops.toArray n = true ∧ Region.chainB .any ops.toArray n = true))
    (hseq : Region.seqB .any ops.toArray (ops.length - n) n ((List.range ops.length).map (fun k => decide (k < n))).toArray = true)
    (h : sxQs P T ops n ops s (fun s' => sxOps P T fx bl ops (ops.drop n) s' (Q .normal))) : awp P fx (.region id ops.toArray true) Q s :=
  awp_drawQ hT hm n hn hB htail hseq (qrun_of hT ops n ops s h)

end

end Go.Pc

/- The abstract logic, tenth part: bodies and what they return; own rows become immutable; quiet calls out of contracts. -/
namespace Go.Pc
open Go

section
variable {P : Program} {T : TypeId → Ty} {fx bl : List Nat}

/-! ### Own rows become immutable; a nil slice becomes an own row -/

mutual
def AV.frz (r kk : Nat) (es : List (List AV)) : AV → AV
  | .any => .any
  | .val v => .val v
  | .agg l => .agg (frzL r kk es l)
  | .tup l => .tup (frzL r kk es l)
  | .sl e => .sl e
  | .ip cs => .ip cs
  | .ptr q off => if q = r then .any else .ptr q off
  | .vp q k i off => if q = r then .any else .vp q k i off
  | .os q k off n => if q = r then (if k = kk ∧ off + n ≤ es.length then .sl ((es.drop off).take n) else .any) else .os q k off n
  | .fn f l => .fn f (frzL r kk es l)
def frzL (r kk : Nat) (es : List (List AV)) : List AV → List AV
  | [] => []
  | x :: l => x.frz r kk es :: frzL r kk es l
end

theorem frzL_map (r kk : Nat) (es : List (List AV)) (l : List AV) : frzL r kk es l = l.map (AV.frz r kk es) := by
  induction l with
  | nil => rfl
  | cons x l ih => simp [frzL, ih]

def OB.frz (r kk : Nat) (es : List (List AV)) : OB → OB
  | .cells cs => .cells (cs.map (AV.frz r kk es))
  | .slab cs => .slab (cs.map (AV.frz r kk es))
  | o => o

def AS.frz (s : AS) (r kk : Nat) (es : List (List AV)) : AS := { tm := s.tm.map (AV.frz r kk es), L := (s.L.map (OB.frz r kk es)).set r .dead }

theorem own_none {ρ : Env} {r b : Nat} (h : own (ρ.at r none) b) : (∃ r' base, r' ≠ r ∧ ρ.l[r']? = some (some (b, base))) ∨ ρ.T b := by
  rcases own_at h with h | ⟨base, h⟩ | h
  · exact .inl h
  · cases h
  · exact .inr h
theorem own_none' {ρ : Env} {r b : Nat} (h : own (ρ.at r none) b) : own ρ b := by
  rcases own_none h with ⟨r', base, _, h⟩ | h
  · exact .l h
  · exact .inr h

theorem VR.frz {w : World} {ρ : Env} {L : List OB} (hh : HR w ρ L) {r k : Nat} {es : List (List AV)} (hL : L[r]? = some (.vec k es)) {v : Value} {x : AV} (h : VR w ρ v x) : VR w (ρ.at r none) v (x.frz r k es) := by
  have hno : ∀ b, b < w.heap.size → no (ρ.at r none) b → no ρ b := fun b _ hb => by
    rcases hb with hb | hb
    · exact .inl (own_none' hb)
    · exact .inr hb
  have hkeep : ∀ (q : Nat) l, q ≠ r → ρ.l[q]? = some l → (ρ.at r none).l[q]? = some l := fun q l hq hl => by
    simp only [Env.at]
    rw [List.getElem?_set_ne (Ne.symm hq)]
    exact hl
  induction h with
  | pr h =>
    have h' := h.mono (w' := w) (o' := no (ρ.at r none)) (fun _ _ _ => rfl) (Nat.le_refl _) hno
    cases h' <;> simp only [AV.frz] <;> first | exact .pr (.any _) | exact .pr (.val _) | exact .pr (.slnil _ _) | (rename_i h0 hc hk ho' hlt hl hcell hread; exact .pr (.sl _ _ _ _ _ _ _ ‹_› h0 hc hk ho' hlt hl hcell hread))
  | agg c l hs _ ih =>
    simp only [AV.frz, frzL_map]
    refine .agg c _ (by simpa using hs) fun i v x hv hx => ?_
    rw [List.getElem?_map] at hx
    cases hl : l[i]? with
    | none => simp [hl] at hx
    | some y => simp [hl] at hx; subst hx; exact ih i v y hv hl
  | tup c l hs _ ih =>
    simp only [AV.frz, frzL_map]
    refine .tup c _ (by simpa using hs) fun i v x hv hx => ?_
    rw [List.getElem?_map] at hx
    cases hl : l[i]? with
    | none => simp [hl] at hx
    | some y => simp [hl] at hx; subst hx; exact ih i v y hv hl
  | ip b o cs cv ho' hlt hcell hread =>
    simp only [AV.frz]
    exact .ip b o cs cv (fun hb => ho' (hno b hlt hb)) hlt hcell (fun j x hx => (hread j x hx).mono (fun _ _ _ => rfl) (Nat.le_refl _) hno)
  | ptr q off b base hr =>
    simp only [AV.frz]; split
    · exact .pr (.any _)
    · rename_i hq; exact .ptr q off b base (hkeep _ _ hq hr)
  | vp q k2 i off b base hr =>
    simp only [AV.frz]; split
    · exact .pr (.any _)
    · rename_i hq; exact .vp q k2 i off b base (hkeep _ _ hq hr)
  | osnil q k2 hr =>
    simp only [AV.frz]; split
    · split
      · simp only [List.take_zero]; exact .pr (.slnil _ _)
      · exact .pr (.any _)
    · rename_i hq; exact .osnil q k2 (hkeep _ _ hq hr)
  | osz q k2 off a b base hr =>
    simp only [AV.frz]; split
    · split
      · simp only [List.take_zero]; exact .pr (.slnil _ _)
      · exact .pr (.any _)
    · rename_i hq; exact .osz q k2 off a b base (hkeep _ _ hq hr)
  | os q k' off n c b base cs e fz hr hc hb hsz =>
    simp only [AV.frz]; split
    · rename_i hq
      subst hq
      split
      · rename_i hle
        obtain ⟨rfl, hle⟩ := hle
        by_cases hn : n = 0
        · subst hn
          simp only [List.take_zero]
          exact .pr (.slnil _ _)
        · obtain ⟨h0, hl, hd⟩ := hh.ent q _ _ hL hr
          rcases hd with ⟨hd, _⟩ | ⟨b', base', c', ty, g1, g2, g3, g4⟩
          · cases hd
          · cases g1
            rw [hb] at g2
            cases g2
            have hnob : ¬ no (ρ.at q none) b := fun hb' => by
              rcases hb' with hb' | hb'
              · rcases own_none hb' with ⟨r', base', hne, h'⟩ | h'
                · exact hne (hh.inj _ _ _ _ _ h' hr)
                · exact hh.t.dl b q base h' hr
              · exact hh.disj b (.l hr) hb'
            have hblt : b < w.heap.size := (Array.getElem?_eq_some_iff.1 hb).1
            have hin : ∀ (i : Nat) e', ((es.drop off).take n)[i]? = some e' → i < n ∧ es[off + i]? = some e' := fun i e' he => by
              have hi : i < n := by
                rcases Nat.lt_or_ge i n with h' | h'
                · exact h'
                · rw [List.getElem?_eq_none (by simp; omega)] at he; cases he
              rw [List.getElem?_take_of_lt hi, List.getElem?_drop] at he
              exact ⟨hi, he⟩
            refine .pr (.sl b (base + off * k') k' n c _ (fun i j => (cs[base + (off + i) * k' + j]?).getD undef) (by simp; omega) (by omega) hc h0 hnob hblt (fun i e' he => hl _ _ (hin i e' he).2) (fun i j e' x he hx => ?_) fun i j e' x he hx => ?_)
            · obtain ⟨u, q1, q2⟩ := g4 _ j e' x (hin i e' he).2 hx
              simp only [World.cell?, hb]
              rw [show base + off * k' + i * k' + j = base + (off + i) * k' + j by rw [Nat.add_mul]; omega, q1]
              simp
            · obtain ⟨u, q1, q2⟩ := g4 _ j e' x (hin i e' he).2 hx
              rw [q1]
              exact q2.mono (fun _ _ _ => rfl) (Nat.le_refl _) hno
      · exact .pr (.any _)
    · rename_i hq; exact .os q k' off n c b base cs e fz (hkeep _ _ hq hr) hc hb hsz
  | fn f c l hs _ ih =>
    simp only [AV.frz, frzL_map]
    refine .fn f c _ (by simpa using hs) fun i v x hv hx => ?_
    rw [List.getElem?_map] at hx
    cases hl : l[i]? with
    | none => simp [hl] at hx
    | some y => simp [hl] at hx; subst hx; exact ih i v y hv hl

theorem wk_frz {s : AS} {r k : Nat} {es : List (List AV)} (hL : s.L[r]? = some (.vec k es)) (hfx : r ∉ fx) : Wk fx s (s.frz r k es) := fun ρ a w hr => by
  have hno : ∀ b, no (ρ.at r none) b → no ρ b := fun b hb => by
    rcases hb with hb | hb
    · exact .inl (own_none' hb)
    · exact .inr hb
  have hget : ∀ {q b base}, (ρ.at r none).l[q]? = some (some (b, base)) → q ≠ r ∧ ρ.l[q]? = some (some (b, base)) := fun {q b base} hq => by
    simp only [Env.at] at hq
    by_cases e : r = q
    · subst e
      simp only [List.getElem?_set] at hq
      simp at hq
    · rw [List.getElem?_set_ne e] at hq
      exact ⟨Ne.symm e, hq⟩
  have hfo : ∀ {q : Nat} {S : Nat → Prop} {items : List (Value × AV)}, (s.frz r k es).L[q]? = some (OB.forest S items) → s.L[q]? = some (OB.forest S items) := fun {q S items} hh => by
    simp only [AS.frz] at hh
    by_cases e : r = q
    · subst e
      simp only [List.getElem?_set] at hh
      simp at hh
    · rw [List.getElem?_set_ne e, List.getElem?_map] at hh
      cases hq : s.L[q]? with
      | none => simp [hq] at hh
      | some o0 =>
        cases o0 <;> simp [hq, OB.frz] at hh
        rw [hh.1, hh.2]
  refine ⟨ρ.at r none, ⟨hr.dfr, by simp [AS.frz, hr.size], fun i v x h1 h2 => ?_, ⟨by simp [Env.at, AS.frz, hr.hr.len], hr.hr.xlt, fun b hb hx => ?_, fun r1 r2 b base base' h1 h2 => ?_, fun q o l h1 h2 => ?_, ⟨hr.hr.t.lt, fun b q base ht h1 => hr.hr.t.dl b q base ht (hget h1).2, fun q S items b h1 => hr.hr.t.sub q S items b (hfo h1), fun q q' S S' items items' b h1 h2 => hr.hr.t.dis q q' S S' items items' b (hfo h1) (hfo h2)⟩⟩⟩, ⟨.refl, fun b _ hb => ?_, fun q hq x hx => ?_, rfl⟩⟩
  · simp only [AS.frz, List.getElem?_map] at h2
    cases hq : s.tm[i]? with
    | none => simp [hq] at h2
    | some y => simp [hq] at h2; subst h2; exact (hr.tm i v y h1 hq).frz hr.hr hL
  · exact hr.hr.disj b (own_none' hb) hx
  · exact hr.hr.inj _ _ _ _ _ (hget h1).2 (hget h2).2
  · by_cases e : r = q
    · subst e
      have hrl : r < s.L.length := (List.getElem?_eq_some_iff.1 hL).1
      simp only [AS.frz] at h1
      rw [List.getElem?_set_self (by simpa using hrl)] at h1
      cases h1
      simp only [Env.at] at h2
      rw [List.getElem?_set_self (by rw [hr.hr.len]; exact hrl)] at h2
      cases h2
      rfl
    · simp only [AS.frz] at h1
      rw [List.getElem?_set_ne e, List.getElem?_map] at h1
      simp only [Env.at] at h2
      rw [List.getElem?_set_ne e] at h2
      cases hq : s.L[q]? with
      | none => simp [hq] at h1
      | some o0 =>
        simp only [hq, Option.map_some, Option.some.injEq] at h1
        subst h1
        have he := hr.hr.ent q o0 l hq h2
        cases o0 with
        | dead => exact he
        | cells cs =>
          obtain ⟨b, c, ty, g1, g2, g3, g4⟩ := he
          refine ⟨b, c, ty, g1, g2, by simpa using g3, fun i v x h5 h6 => ?_⟩
          simp only [List.getElem?_map] at h6
          cases hx : cs[i]? with
          | none => simp [hx] at h6
          | some y => simp only [hx, Option.map_some, Option.some.injEq] at h6; subst h6; exact (g4 i v y h5 hx).frz hr.hr hL
        | slab cs =>
          rcases he with ⟨hz1, hz2⟩ | ⟨b, base0, c, ty, g1, g2, g3, g4⟩
          · exact .inl ⟨hz1, by simpa using hz2⟩
          refine .inr ⟨b, base0, c, ty, g1, g2, by simpa using g3, fun i v x h5 h6 => ?_⟩
          simp only [List.getElem?_map] at h6
          cases hx : cs[i]? with
          | none => simp [hx] at h6
          | some y => simp only [hx, Option.map_some, Option.some.injEq] at h6; subst h6; exact (g4 i v y h5 hx).frz hr.hr hL
        | vec k' es' =>
          obtain ⟨h0, hl, hd⟩ := he
          refine ⟨h0, hl, ?_⟩
          rcases hd with hd | ⟨b, base', c, ty, g1, g2, g3, g4⟩
          · exact .inl hd
          · exact .inr ⟨b, base', c, ty, g1, g2, g3, fun i j ei x h5 h6 => let ⟨v, h7, h8⟩ := g4 i j ei x h5 h6; ⟨v, h7, h8.mono (fun _ _ _ => rfl) (Nat.le_refl _) (fun b _ hb => hno b hb)⟩⟩
        | forest S items => exact he
  · exact own_none' hb
  · simp only [Env.at]
    rw [List.getElem?_set_ne (show r ≠ q from fun e => hfx (by rw [e]; exact hq))]
    exact hx

/-- A nil slice in a temporary is an own row with nothing in it. -/
theorem wk_nil {s : AS} (t k : Nat) (hk : 0 < k) (ht : s.tm[t]? = some (.val (.slice none 0 0))) : Wk fx s { tm := s.tm.set t (.os s.L.length k 0 0), L := s.L ++ [.vec k []] } := fun ρ a w hr => by
  have hp := hr.push Fr.refl none (fun b base hh => by cases hh) (.vec k []) ⟨hk, by simp, .inl ⟨rfl, rfl⟩⟩
  refine ⟨ρ.push none, ⟨hp.dfr, by have := hp.size; simpa [AS.push] using this, fun i v x h1 h2 => ?_, hp.hr⟩, .push Fr.refl (fun b base hh => by cases hh)⟩
  by_cases hi : t = i
  · subst hi
    have hlt : t < s.tm.length := (List.getElem?_eq_some_iff.1 ht).1
    simp only [] at h2
    rw [List.getElem?_set_self hlt] at h2
    cases h2
    have := val_inv (hr.tm t v _ h1 ht)
    subst this
    exact .osnil _ _ (by rw [← hr.hr.len]; exact push_get _ _)
  · simp only [] at h2
    rw [List.getElem?_set_ne hi] at h2
    exact hp.tm i v x h1 h2

/-! ### What a body returns -/

/-- The result, and the own blocks that stay, told under new names. -/
def Fin (fx : List Nat) (nb : Nat) (R : AV → List OB → Prop) (s : AS) (x : AV) : Prop :=
  ∀ (ρ : Env) (a : Act) (w : World) (v : Value), Rel ρ s a w → VR w ρ v x → ∃ x' L', (R x' L' ∧ nb ≤ L'.length) ∧ ∃ ρ', VR w ρ' v x' ∧ HR w ρ' L' ∧ St fx ρ w ρ' w

def nameK (ks : List Nat) (m j : Nat) : Nat := ks.getD j m

theorem fin_keep {nb : Nat} {R : AV → List OB → Prop} {s : AS} {x : AV} (ks : List Nat) (x' : AV) (L' : List OB) (hR : R x' L') (hnb : nb ≤ L'.length) (hn : ks.Nodup) (hlen : L'.length = ks.length) (hx : x = x'.ren (nameK ks s.L.length))
    (hL : ∀ (j r : Nat) o, ks[j]? = some r → L'[j]? = some o → s.L[r]? = some (o.ren (nameK ks s.L.length))) (hfx : ∀ r ∈ fx, ks[r]? = some r) : Fin fx nb R s x := by
  refine fun ρ a w v hr hv => ⟨x', L', ⟨hR, hnb⟩, ?_⟩
  let ρc : Env := { l := ks.map fun r => ρ.l.getD r none, X := ρ.X, T := ρ.T }
  have hget : ∀ (j r : Nat), ks[j]? = some r → ∃ l, ρ.l[r]? = some l ∧ ρc.l[j]? = some l := fun j r hj => by
    have hj' : j < ks.length := (List.getElem?_eq_some_iff.1 hj).1
    have h0 := hL j r (L'[j]'(by omega)) hj (List.getElem?_eq_getElem _)
    have h1 : r < ρ.l.length := by rw [hr.hr.len]; exact (List.getElem?_eq_some_iff.1 h0).1
    refine ⟨ρ.l[r], List.getElem?_eq_getElem h1, ?_⟩
    simp only [ρc, List.getElem?_map, hj, Option.map_some, List.getD_eq_getElem?_getD, List.getElem?_eq_getElem h1, Option.getD_some]
  have hback : ∀ (j : Nat) l, ρ.l[nameK ks s.L.length j]? = some l → ρc.l[j]? = some l := fun j l hl => by
    by_cases hj : j < ks.length
    · have hj' := List.getElem?_eq_getElem hj
      obtain ⟨l', h1, h2⟩ := hget j _ hj'
      simp only [nameK, List.getD_eq_getElem?_getD, hj', Option.getD_some] at hl
      rw [h1] at hl; cases hl
      exact h2
    · simp only [nameK, List.getD_eq_getElem?_getD, List.getElem?_eq_none (Nat.le_of_not_lt hj), Option.getD_none] at hl
      rw [List.getElem?_eq_none (by rw [hr.hr.len]; exact Nat.le_refl _)] at hl
      cases hl
  have hlc : ∀ {j b base : Nat}, ρc.l[j]? = some (some (b, base)) → ∃ r, ρ.l[r]? = some (some (b, base)) := fun {j b base} hj => by
    simp only [ρc, List.getElem?_map] at hj
    cases hq : ks[j]? with
    | none => simp [hq] at hj
    | some r =>
      obtain ⟨l, h1, h2⟩ := hget j r hq
      have : ρc.l[j]? = some (some (b, base)) := by simp only [ρc, List.getElem?_map]; exact hj
      rw [h2] at this; cases this
      exact ⟨r, h1⟩
  have hown : ∀ b, own ρc b → own ρ b := fun b hb => by
    rcases hb with ⟨j, base, hj⟩ | hb
    · obtain ⟨r, h1⟩ := hlc hj
      exact .l h1
    · exact .inr hb
  have hno : ∀ b, no ρc b → no ρ b := fun b hb => by
    rcases hb with hb | hb
    · exact .inl (hown b hb)
    · exact .inr hb
  refine ⟨ρc, VR.unren _ hback (fun b _ hb => hno b hb) x' v (hx ▸ hv), ⟨by simp [ρc, hlen], hr.hr.xlt, fun b hb => hr.hr.disj b (hown b hb), fun j j' b base base' h1 h2 => ?_, fun j o l h1 h2 => ?_, ⟨hr.hr.t.lt, fun b j base ht hj => ?_, fun j S items b hj hS => ?_, fun j j' S S' items items' b hj hj' hS hS' => ?_⟩⟩, ⟨.refl, fun b _ hb => hown b hb, fun r hrf l hl => ?_, rfl⟩⟩
  · have hlt : ∀ {j b base}, ρc.l[j]? = some (some (b, base)) → j < ks.length := fun {j b base} h => by
      have := (List.getElem?_eq_some_iff.1 h).1
      simpa [ρc] using this
    obtain ⟨l, p1, p2⟩ := hget j _ (List.getElem?_eq_getElem (hlt h1))
    obtain ⟨l', q1, q2⟩ := hget j' _ (List.getElem?_eq_getElem (hlt h2))
    rw [h1] at p2; cases p2
    rw [h2] at q2; cases q2
    have := hr.hr.inj _ _ _ _ _ p1 q1
    exact (List.getElem?_inj (hlt h1) hn).1 (by rw [List.getElem?_eq_getElem (hlt h1), List.getElem?_eq_getElem (hlt h2), this])
  · have hj : j < ks.length := by
      have := (List.getElem?_eq_some_iff.1 h1).1
      omega
    obtain ⟨l', p1, p2⟩ := hget j _ (List.getElem?_eq_getElem hj)
    rw [h2] at p2; cases p2
    exact EntR.unren _ (hr.hr.ent _ _ _ (hL j _ o (List.getElem?_eq_getElem hj) h1) p1) hback (fun b _ hb => hno b hb)
  · obtain ⟨r, h1⟩ := hlc hj
    exact hr.hr.t.dl b r base ht h1
  · have k1 : j < ks.length := by have := (List.getElem?_eq_some_iff.1 hj).1; omega
    exact hr.hr.t.sub _ S items b (hL j _ _ (List.getElem?_eq_getElem k1) hj) hS
  · have k1 : j < ks.length := by have := (List.getElem?_eq_some_iff.1 hj).1; omega
    have k2 : j' < ks.length := by have := (List.getElem?_eq_some_iff.1 hj').1; omega
    have := hr.hr.t.dis _ _ S S' items items' b (hL j _ _ (List.getElem?_eq_getElem k1) hj) (hL j' _ _ (List.getElem?_eq_getElem k2) hj') hS hS'
    exact (List.getElem?_inj k1 hn).1 (by rw [List.getElem?_eq_getElem k1, List.getElem?_eq_getElem k2, this])
  · obtain ⟨l', p1, p2⟩ := hget r r (hfx r hrf)
    rw [hl] at p1; cases p1
    exact p2

/-- An own row that is handed back becomes immutable. -/
theorem fin_frz {nb : Nat} {R : AV → List OB → Prop} {s : AS} {x : AV} {r k : Nat} {es : List (List AV)} (hL : s.L[r]? = some (.vec k es)) (hfx : r ∉ fx) (h' : Fin fx nb R (s.frz r k es) (x.frz r k es)) : Fin fx nb R s x := by
  refine fun ρ a w v hr hv => ?_
  -- the result put into a temporary of its own
  have hr' : Rel ρ { s with tm := s.tm ++ [x] } { a with tmps := a.tmps.push v } w := by
    refine ⟨hr.dfr, by simp [hr.size], fun i u y h1 h2 => ?_, hr.hr⟩
    by_cases hi : i < s.tm.length
    · rw [List.getElem?_append_left hi] at h2
      rw [Array.getElem?_push, if_neg (by rw [hr.size]; omega)] at h1
      exact hr.tm i u y h1 h2
    · rw [List.getElem?_append_right (by omega)] at h2
      rw [Array.getElem?_push] at h1
      split at h1
      · rename_i he
        have e0 : i - s.tm.length = 0 := by rw [he, hr.size]; omega
        rw [e0] at h2
        simp at h1 h2
        subst h1; subst h2
        exact hv
      · rename_i he
        rw [Array.getElem?_eq_none (by rw [hr.size] at he ⊢; omega)] at h1
        cases h1
  obtain ⟨ρ1, h1, g1⟩ := wk_frz (fx := fx) (s := { s with tm := s.tm ++ [x] }) hL hfx ρ _ w hr'
  have h2 : Rel ρ1 (s.frz r k es) a w := by
    refine ⟨h1.dfr, by simpa [AS.frz] using hr.size, fun i u y h3 h4 => ?_, h1.hr⟩
    have hi : i < s.tm.length := by
      have := (List.getElem?_eq_some_iff.1 h4).1
      simpa [AS.frz] using this
    refine h1.tm i u y ?_ ?_
    · show (a.tmps.push v)[i]? = _
      rw [Array.getElem?_push, if_neg (by rw [hr.size]; omega)]; exact h3
    · simp only [AS.frz] at h4 ⊢
      rw [List.map_append, List.getElem?_append_left (by simpa using hi)]
      exact h4
  have hv2 : VR w ρ1 v (x.frz r k es) := by
    refine h1.tm s.tm.length v _ ?_ ?_
    · show (a.tmps.push v)[s.tm.length]? = _
      rw [Array.getElem?_push, if_pos hr.size.symm]
    · simp [AS.frz]
  obtain ⟨x', L', hR, ρ2, h3, h4, g2⟩ := h' ρ1 a w v h2 hv2
  exact ⟨x', L', hR, ρ2, h3, h4, g1.trans g2⟩

mutual
/-- Nil slices read as empty ones. -/
def AV.nrm : AV → AV
  | .val (.slice none 0 0) => .sl []
  | .agg l => .agg (nrmL l)
  | .tup l => .tup (nrmL l)
  | x => x
def nrmL : List AV → List AV
  | [] => []
  | x :: l => x.nrm :: nrmL l
end

theorem nrmL_map (l : List AV) : nrmL l = l.map AV.nrm := by
  induction l with
  | nil => simp [nrmL]
  | cons x l ih => simp [nrmL, ih]

theorem VR.nrm {w : World} {ρ : Env} {v : Value} {x : AV} (h : VR w ρ v x) : VR w ρ v x.nrm := by
  induction h with
  | pr h =>
    cases h with
    | val v =>
      unfold AV.nrm
      split
      · rename_i he; cases he; exact .pr (.slnil _ _)
      · rename_i he; cases he
      · rename_i he; cases he
      · exact .pr (.val _)
    | any => simp only [AV.nrm]; exact .pr (.any _)
    | slnil => simp only [AV.nrm]; exact .pr (.slnil _ _)
    | sl => simp only [AV.nrm]; exact .pr (.sl _ _ _ _ _ _ _ ‹_› ‹_› ‹_› ‹_› ‹_› ‹_› ‹_› ‹_› ‹_›)
  | agg c l hs _ ih =>
    simp only [AV.nrm, nrmL_map]
    refine .agg c _ (by simpa using hs) fun i v x hv hx => ?_
    rw [List.getElem?_map] at hx
    cases hl : l[i]? with
    | none => simp [hl] at hx
    | some y => simp [hl] at hx; subst hx; exact ih i v y hv hl
  | tup c l hs _ ih =>
    simp only [AV.nrm, nrmL_map]
    refine .tup c _ (by simpa using hs) fun i v x hv hx => ?_
    rw [List.getElem?_map] at hx
    cases hl : l[i]? with
    | none => simp [hl] at hx
    | some y => simp [hl] at hx; subst hx; exact ih i v y hv hl
  | ip b o cs cv ho' hlt hcell hread => simp only [AV.nrm]; exact .ip b o cs cv ho' hlt hcell hread
  | ptr r off b base hr => simp only [AV.nrm]; exact .ptr r off b base hr
  | vp r k i off b base hr => simp only [AV.nrm]; exact .vp r k i off b base hr
  | osnil r k hr => simp only [AV.nrm]; exact .osnil r k hr
  | osz r k off a b base hr => simp only [AV.nrm]; exact .osz r k off a b base hr
  | os r k off n c b base cs e fz hr hc hb hsz => simp only [AV.nrm]; exact .os r k off n c b base cs e fz hr hc hb hsz
  | fn f c l hs h _ => simp only [AV.nrm]; exact .fn f c l hs h

/-- The results' variables, read. -/
def rvs (T : TypeId → Ty) (s : AS) : List ResultVar → (List AV → Prop) → Prop
  | [], K => K []
  | .tmp t :: l, K => rvs T s l (fun xs => K (s.tm.getD t .any :: xs))
  | .cell a t :: l, K => qLoad T t s (s.tm.getD a .any) (fun r => rvs T s l (fun xs => K (r :: xs)))

def resOf : List AV → AV
  | [x] => x
  | xs => .tup xs

def readRV (tmps : Array Value) : ResultVar → Sem Value
  | .tmp t => pure (tmps.getD t undef)
  | .cell a t => do loadVar t (← asAddr (tmps.getD a undef))

theorem results_eq (fn : Func) (tmps : Array Value) : results fn tmps = (do
    let vs ← fn.results.mapM (readRV tmps)
    pure (if h : vs.size = 1 then vs[0] else .tuple vs)) := by
  have : (fun rv : ResultVar => match rv with | .tmp t => (pure (tmps.getD t undef) : Sem Value) | .cell a t => do loadVar t (← asAddr (tmps.getD a undef))) = readRV tmps := by
    funext rv; cases rv <;> rfl
  rw [← this]
  rfl

theorem rvs_sound (hT : TTOk P T) {s : AS} {ρ : Env} {a : Act} {w : World} (hr : Rel ρ s a w) : ∀ (l : List ResultVar) (K : List AV → Prop), rvs T s l K → ∃ xs vs, K xs ∧
    (l.mapM (readRV a.tmps)).run P w = .ok vs w ∧ vs.length = xs.length ∧ ∀ (i : Nat) v x, vs[i]? = some v → xs[i]? = some x → VR w ρ v x
  | [], K, h => ⟨[], [], h, rfl, rfl, by simp⟩
  | .tmp t :: l, K, h => by
    obtain ⟨xs, vs, h1, h2, h3, h4⟩ := rvs_sound hT hr l _ h
    refine ⟨_, a.tmps.getD t undef :: vs, h1, by simp only [List.mapM_cons, readRV, Sem.run_bind, Sem.run_pure, Result.andThen_ok, h2], by simp [h3], fun i v x hv hx => ?_⟩
    cases i with
    | zero =>
      simp only [List.getElem?_cons_zero, Option.some.injEq] at hv hx
      subst hv; subst hx
      exact hr.ev (.tmp t)
    | succ i => exact h4 i v x (by simpa using hv) (by simpa using hx)
  | .cell b t :: l, K, h => by
    obtain ⟨r, hr1, hh⟩ := qLoad_sound hT h
    obtain ⟨xs, vs, h1, h2, h3, h4⟩ := rvs_sound hT hr l _ hr1
    have hv := hr.ev (.tmp b)
    obtain ⟨u, g1, g2⟩ := hh ρ w (a.eval (.tmp b)) hr.hr hv
    have hload : (readRV a.tmps (.cell b t)).run P w = .ok u w := by
      have : a.eval (.tmp b) = a.tmps.getD b undef := rfl
      rw [this] at g1
      generalize hvb : a.tmps.getD b undef = vb at g1
      unfold Instr.loadAt Instr.sureAddr at g1
      cases vb <;> try (simp at g1; done)
      rename_i ad
      cases ad with
      | none => simp at g1
      | some ad => simpa [readRV, hvb, asAddr] using g1
    refine ⟨_, u :: vs, h1, by rw [List.mapM_cons, Sem.run_bind, hload]; simp only [Result.andThen_ok, Sem.run_bind, h2, Sem.run_pure], by simp [h3], fun i v x hv hx => ?_⟩
    cases i with
    | zero => simp at hv hx; subst hv; subst hx; exact g2
    | succ i => exact h4 i v x (by simpa using hv) (by simpa using hx)

/-- What is asked of a body's end. -/
def Ret (T : TypeId → Ty) (fx : List Nat) (rv : List ResultVar) (nb : Nat) (R : AV → List OB → Prop) (e : Exit) (s : AS) : Prop :=
  match e with
  | .normal => rvs T s rv (fun xs => Fin fx nb R s (resOf xs))
  | .ret => rvs T s rv (fun xs => Fin fx nb R s (resOf xs))
  | .exit _ => False
  | .goto _ => False
  | .panic _ => False
  | .outgrown => False

theorem acalls_intro (hT : TTOk P T) {f : FuncId} {fn : Func} {c : Code} {args : List AV} {L0 : List OB} {R : AV → List OB → Prop} (hf : P.funcs[f]? = some fn) (hb : fn.body = some c) (he : Enters P f) (n : Nat) (hn : fn.ntmps - args.length = n) {rv : List ResultVar} (hrv : fn.results = rv.toArray)
    (h : awp P fx c (Ret T fx rv L0.length R) ⟨args ++ List.replicate n .any, L0⟩) : ACalls P f args L0 fx R := by
  refine ⟨he, fun ρ w vs hhr hvl hv => calls_of_wp hf hb ?_⟩
  have hr : Rel ρ ⟨args ++ List.replicate n .any, L0⟩ { tmps := vs ++ Array.replicate (fn.ntmps - vs.size) undef, defers := [] } w := by
    refine ⟨rfl, by simp [hvl, hn], fun i v x h1 h2 => ?_, hhr⟩
    by_cases hi : i < args.length
    · simp only [] at h1 h2
      rw [List.getElem?_append_left hi] at h2
      rw [Array.getElem?_append_left (by omega)] at h1
      exact hv i v x h1 h2
    · simp only [] at h2
      rw [List.getElem?_append_right (by omega), List.getElem?_replicate] at h2
      split at h2
      · cases h2; exact .pr (.any _)
      · cases h2
  refine wp_mono (h ρ _ w hr) fun e a' w' ⟨s', ρ', h1, h2, h3⟩ => ?_
  have fin : rvs T s' rv (fun xs => Fin fx L0.length R s' (resOf xs)) → a'.defers = [] ∧ ∃ v, (results fn a'.tmps).run P w' = .ok v w' ∧ ∃ v' res L' ρ'', Ending.returned v = .returned v' ∧ R res L' ∧ L0.length ≤ L'.length ∧ VR w' ρ'' v' res ∧ HR w' ρ'' L' ∧ St fx ρ w ρ'' w' := fun hh => by
    obtain ⟨xs, us, g1, g2, g3, g4⟩ := rvs_sound hT h2 rv _ hh
    have hres : ∃ v, (results fn a'.tmps).run P w' = .ok v w' ∧ VR w' ρ' v (resOf xs) := by
      refine ⟨if h : us.toArray.size = 1 then us.toArray[0] else .tuple us.toArray, ?_, ?_⟩
      · rw [results_eq, hrv]
        simp only [Sem.run_bind, List.mapM_toArray, Sem.run_map, g2, Result.andThen_ok, Sem.run_pure]
      · by_cases h1 : us.length = 1
        · rw [dif_pos (by simpa using h1)]
          obtain ⟨u, rfl⟩ := List.length_eq_one_iff.1 h1
          obtain ⟨x, rfl⟩ := List.length_eq_one_iff.1 (g3.symm.trans h1)
          exact g4 0 u x rfl rfl
        · rw [dif_neg (by simpa using h1)]
          have : resOf xs = .tup xs := by
            unfold resOf
            split
            · rename_i x; simp at g3; exact absurd g3 h1
            · rfl
          rw [this]
          exact .tup _ _ (by simp [g3]) fun i v x hv hx => g4 i v x (by simpa using hv) hx
    obtain ⟨v, hv1, hv2⟩ := hres
    obtain ⟨x', L', ⟨q1, q2⟩, ρ'', p1, p2, p3⟩ := g1 ρ' a' w' v h2 hv2
    exact ⟨h2.dfr, v, hv1, v, x', L', ρ'', rfl, q1, q2, p1, p2, h3.trans p3⟩
  cases e <;> first | exact fin h1 | exact h1.elim

/-! ### Quiet calls out of contracts -/

mutual
def AV.free : AV → Bool
  | .any => true
  | .val _ => true
  | .agg l => freeL l
  | .tup l => freeL l
  | .sl _ => true
  | .ip _ => true
  | .ptr _ _ => false
  | .vp _ _ _ _ => false
  | .os _ _ _ _ => false
  | .fn _ l => freeL l
def freeL : List AV → Bool
  | [] => true
  | x :: l => x.free && freeL l
end

mutual
theorem AV.free_ren (σ : Nat → Nat) : ∀ (x : AV), x.free = true → x.ren σ = x
  | .any, _ | .val _, _ | .sl _, _ | .ip _, _ => by simp [AV.ren]
  | .ptr r _, h | .vp r _ _ _, h | .os r _ _ _, h => by simp [AV.free] at h
  | .agg l, h | .tup l, h | .fn _ l, h => by simp only [AV.free] at h; simp only [AV.ren, freeL_ren σ l h]
theorem freeL_ren (σ : Nat → Nat) : ∀ (l : List AV), freeL l = true → renL σ l = l
  | [], _ => rfl
  | x :: l, h => by
    simp only [freeL, Bool.and_eq_true] at h
    simp only [renL, AV.free_ren σ x h.1, freeL_ren σ l h.2]
end

theorem freeL_mem {l : List AV} {x : AV} (h : freeL l = true) (hx : x ∈ l) : x.free = true := by
  induction l with
  | nil => cases hx
  | cons y l ih =>
    simp only [freeL, Bool.and_eq_true] at h
    rcases List.mem_cons.1 hx with rfl | hx
    · exact h.1
    · exact ih h.2 hx

theorem qcall_of {f : FuncId} {caps args : List AV} {r : AV} (h : ACalls P f (args ++ caps) [] [] (fun res L' => res = r ∧ L' = [])) (hfree : freeL (args ++ caps) = true) : QCall P (.fn f caps) args r := by
  intro ρ w L vf vs hr hvf hvl hv
  obtain ⟨hent, hcalls⟩ := h
  cases hvf with
  | pr hp => cases hp
  | fn f cv _ hs hc =>
  simp only [Deferred.ofValue, Sem.run_bind, Sem.run_pure, Result.andThen_ok, invoke, Array.empty_append]
  rw [hent]
  simp only [Out]
  let ρc : Env := { l := [], X := no ρ }
  have hnone : ∀ b, ¬ own ρc b := fun b hb => by
    rcases hb with ⟨j, base, hj⟩ | hb
    · simp [ρc] at hj
    · cases hb
  have hnoc : ∀ b, no ρc b → no ρ b := fun b hb => by
    rcases hb with (⟨j, base, hj⟩ | hb) | hb
    · simp [ρc] at hj
    · cases hb
    · exact hb
  refine (hcalls ρc w (vs ++ cv) ⟨rfl, fun b hb => ?_, fun b hb => (hnone b hb).elim, fun j j' b base base' h1 => by simp [ρc] at h1, fun j o l h1 => by simp at h1, ⟨fun b hb => (False.elim hb), fun b j base hb => (False.elim hb), fun j S items b h1 => by simp at h1, fun j j' S S' items items' b h1 => by simp at h1⟩⟩ (by simp; omega) fun i v x h1 h2 => ?_).mono fun e w' ⟨v, res, L', ρ', he, ⟨hR, hL⟩, _, hvr, hhr, hst⟩ => ?_
  · rcases hb with hb | hb
    · exact own_lt hr hb
    · exact hr.xlt b hb
  · have hxf := freeL_mem hfree (List.mem_of_getElem? h2)
    have hvx : VR w ρ v x := by
      by_cases hi : i < vs.size
      · rw [Array.getElem?_append_left hi] at h1
        rw [List.getElem?_append_left (by omega)] at h2
        exact hv i v x h1 h2
      · rw [Array.getElem?_append_right (by omega)] at h1
        rw [List.getElem?_append_right (by omega)] at h2
        rw [← hvl] at h2
        exact hc _ v x h1 h2
    refine VR.unren (ρ := ρ) (fun j => ρ.l.length + j) (fun j l hl => ?_) (fun b _ hb => hnoc b hb) x v (by rw [AV.free_ren _ x hxf]; exact hvx)
    rw [List.getElem?_eq_none (by omega)] at hl
    cases hl
  · subst hR; subst hL
    have hl0 : ρ'.l = [] := List.length_eq_zero_iff.1 (by rw [hhr.len]; rfl)
    have hX : ρ'.X = no ρ := hst.x
    refine ⟨v, he, ?_, ⟨hst.fr.le, fun b hb _ => hst.fr.same b hb (hnone b), hst.fr.size, hst.fr.os, hst.fr.out, hst.fr.tape⟩⟩
    have := hvr.mono (w' := w') (ρ' := ρ) .refl (fun b _ hb => .inr (by rw [hX]; exact hb)) (fun _ => true) (fun j l _ hl => by rw [hl0] at hl; simp at hl)
    rwa [AV.filt_true] at this

/-- A result without own blocks, nothing else kept. -/
theorem fin_free {R : AV → List OB → Prop} {s : AS} {x : AV} (hx : x.free = true) (hR : R x []) : Fin [] 0 R s x :=
  fin_keep [] x [] hR (Nat.zero_le _) List.nodup_nil rfl (by rw [AV.free_ren _ x hx]) (fun j r o h => by simp at h) (fun r h => by cases h)

end

end Go.Pc

/- The abstract logic, eleventh part: how a types' table is held against a program. -/
namespace Go.Pc
open Go

def valB : Value → Value → Bool
  | .int k a, .int k' b => decide (k = k') && decide (a = b)
  | .bool a, .bool b => decide (a = b)
  | .string a, .string b => a.data.toList == b.data.toList
  | .slice none 0 0, .slice none 0 0 => true
  | .pointer none, .pointer none => true
  | .nilFunc, .nilFunc => true
  | .nilIface, .nilIface => true
  | _, _ => false

theorem valB_sound {a b : Value} (h : valB a b = true) : a = b := by
  unfold valB at h
  split at h <;> simp_all
  rename_i x y
  cases x with
  | mk d => cases y with
    | mk e =>
      congr 1

def valsB : List Value → List Value → Bool
  | [], [] => true
  | a :: l, b :: m => valB a b && valsB l m
  | _, _ => false

theorem valsB_sound : ∀ {l m : List Value}, valsB l m = true → l = m
  | [], [], _ => rfl
  | a :: l, b :: m, h => by
    simp only [valsB, Bool.and_eq_true] at h
    rw [valB_sound h.1, valsB_sound h.2]
  | [], _ :: _, h => by cases h
  | _ :: _, [], h => by cases h

def fsB : List Field → List (Nat × TypeId) → Bool
  | [], [] => true
  | f :: l, p :: m => decide (f.offset = p.1) && decide (f.type = p.2) && fsB l m
  | _, _ => false

theorem fsB_sound : ∀ {l : List Field} {m : List (Nat × TypeId)}, fsB l m = true → l.map (fun f => (f.offset, f.type)) = m
  | [], [], _ => rfl
  | f :: l, p :: m, h => by
    simp only [fsB, Bool.and_eq_true, decide_eq_true_eq] at h
    simp only [List.map_cons, fsB_sound h.2, h.1.1, h.1.2]
  | [], _ :: _, h => by cases h
  | _ :: _, [], h => by cases h

def kdB (d : TypeDesc) : Kd → Bool
  | .none => false
  | .flat => match d with | .struct _ | .array .. => false | _ => true
  | .intk k => match d with | .int k' => decide (k' = k) | _ => false
  | .bool => match d with | .bool => true | _ => false
  | .str => match d with | .string => true | _ => false
  | .struct fs => match d with | .struct f => fsB f.toList fs | _ => false
  | .array n e => match d with | .array n' e' => decide (n' = n) && decide (e' = e) | _ => false
  | .slice e => match d with | .slice e' => decide (e' = e) | _ => false

theorem kdB_sound {d : TypeDesc} {k : Kd} (h : kdB d k = true) : KdOk d k := by
  cases k <;> cases d <;> simp_all [kdB, KdOk]
  exact fsB_sound h

def tyB (P : Program) (t : TypeId) (y : Ty) : Bool :=
  !y.kd.ok || match P.info? t, P.underlying t with
    | some i, some d => kdB d y.kd && decide (i.size = y.size) && decide (i.bytes = y.bytes) && (match i.zero with | some z => valsB z.cells.toList y.zero | none => false) && decide (y.zero.length = y.size)
    | _, _ => false

theorem tyB_sound {P : Program} {t : TypeId} {y : Ty} (h : tyB P t y = true) : TyOk P t y := by
  intro hk
  simp only [tyB, hk, Bool.not_true, Bool.false_or] at h
  split at h
  · rename_i i d hi hd
    simp only [Bool.and_eq_true, decide_eq_true_eq] at h
    obtain ⟨⟨⟨⟨h1, h2⟩, h3⟩, h4⟩, h5⟩ := h
    split at h4
    · rename_i z hz
      exact ⟨i, d, z, hi, hd, kdB_sound h1, h2, h3, hz, valsB_sound h4, h5⟩
    · cases h4
  · cases h

theorem ttok {P : Program} {T : TypeId → Ty} (n : Nat) (h : (List.range n).all (fun t => tyB P t (T t)) = true) (hd : ∀ t, n ≤ t → (T t).kd = .none) (he : ∀ t, EqOk P t (T t)) : TTOk P T where
  ty t := by
    by_cases ht : t < n
    · exact tyB_sound (List.all_eq_true.1 h t (List.mem_range.2 ht))
    · intro hk
      rw [hd t (Nat.le_of_not_lt ht)] at hk
      cases hk
  eq := he

theorem eqOk_nil {P : Program} {t : TypeId} {y : Ty} (h : y.eqk = []) : EqOk P t y := fun hn => absurd h hn

theorem km_int {ks : List SK} {xs : List Value} (h : KM (.int :: ks) xs) : ∃ a l, xs = .int .i64 a :: l ∧ KM ks l := by
  cases xs with
  | nil => simp [KM] at h
  | cons v l =>
    cases v <;> try (simp [KM] at h; done)
    rename_i k n
    cases k <;> simp [KM] at h
    exact ⟨_, _, rfl, h⟩
theorem km_bool {ks : List SK} {xs : List Value} (h : KM (.bool :: ks) xs) : ∃ a l, xs = .bool a :: l ∧ KM ks l := by
  cases xs with
  | nil => simp [KM] at h
  | cons v l =>
    cases v <;> try (simp [KM] at h; done)
    exact ⟨_, _, rfl, h⟩
theorem km_nil {xs : List Value} (h : KM [] xs) : xs = [] := by
  cases xs with
  | nil => rfl
  | cons v l => simp [KM] at h

end Go.Pc
