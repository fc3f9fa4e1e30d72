/- The abstract logic, fifth part: append. -/
import Derived.Test.YtjeabpbpoomlmaaAlc
set_option linter.unusedSimpArgs false
set_option linter.unusedVariables false
namespace Go.Pc
open Go

def OB.kill (r : Nat) : OB → OB
  | .cells cs => .cells (cs.map (AV.filt fun r' => r' != r))
  | o => o

/-- The state with all that names own block r forgotten. -/
def AS.kill (r : Nat) (s : AS) : AS := { tm := s.tm.map (AV.filt fun r' => r' != r), L := s.L.map (OB.kill r) }

section
variable {P : Program} {T : TypeId → Ty}

def Env.at (ρ : Env) (r : Nat) (l : Option (Nat × Nat)) : Env := { ρ with l := ρ.l.set r l }

theorem own_at {ρ : Env} {r b : Nat} {l : Option (Nat × Nat)} (h : own (ρ.at r l) b) : (∃ r' base, r' ≠ r ∧ ρ.l[r']? = some (some (b, base))) ∨ (∃ base, l = some (b, base)) ∨ ρ.T b := by
  rcases h with ⟨r', base, hr⟩ | h
  case inr => exact .inr (.inr h)
  simp only [Env.at] at hr
  by_cases he : r = r'
  · subst he
    simp only [List.getElem?_set] at hr
    simp at hr
    exact .inr (.inl ⟨base, hr.2⟩)
  · rw [List.getElem?_set_ne he] at hr
    exact .inl ⟨r', base, fun e => he e.symm, hr⟩

/-- Own row r lies somewhere else now (or somewhere else in its block); what named it has been forgotten. -/
theorem Rel.revec {fx : List Nat} {ρ : Env} {s : AS} {a : Act} {w w' : World} (h : Rel ρ s a w) {r : Nat} (hfx : r ∉ fx) {l0 l' : Option (Nat × Nat)} (hρ : ρ.l[r]? = some l0) (hf : Fr (own ρ) w w')
    (hsame : ∀ b, b < w.heap.size → (∀ base, l0 ≠ some (b, base)) → w'.heap[b]? = w.heap[b]?) (hl' : ∀ g base, l' = some (g, base) → w.heap.size ≤ g ∨ ∃ base0, l0 = some (g, base0))
    (o : OB) (he : (∀ v x, PR w (no ρ) v x → PR w' (no (ρ.at r l')) v x) → EntR w' (ρ.at r l') l' o)
    (hof : ∀ S items, o ≠ .forest S items := by intro S items hh; cases hh) :
    Rel (ρ.at r l') { s.kill r with L := (s.kill r).L.set r o } a w' ∧ St fx ρ w (ρ.at r l') w' := by
  have hrl : r < ρ.l.length := by
    rcases Nat.lt_or_ge r ρ.l.length with h' | h'
    · exact h'
    · simp [List.getElem?_eq_none h'] at hρ
  have hsub : ∀ b, b < w.heap.size → own (ρ.at r l') b → own ρ b := fun b hb ho => by
    rcases own_at ho with ⟨r', base, _, h⟩ | ⟨base, h⟩ | h
    · exact .l h
    · rcases hl' _ _ h with h | ⟨base0, h⟩
      · omega
      · exact .l (r := r) (base := base0) (by rw [hρ, h])
    · exact .inr h
  have hgetT : ∀ {r1 b base : Nat}, (ρ.at r l').l[r1]? = some (some (b, base)) → b < w.heap.size → own ρ b ∧ ∃ r2 base2, ρ.l[r2]? = some (some (b, base2)) := fun {r1 b base} hh hb => by
    have h1 : (∃ r' base, r' ≠ r ∧ ρ.l[r']? = some (some (b, base))) ∨ ∃ base, l' = some (b, base) := by
      simp only [Env.at] at hh
      by_cases e : r = r1
      · subst e
        simp only [List.getElem?_set] at hh
        simp at hh
        exact .inr ⟨_, hh.2⟩
      · rw [List.getElem?_set_ne e] at hh
        exact .inl ⟨r1, base, fun e' => e e'.symm, hh⟩
    rcases h1 with ⟨r', base, _, h⟩ | ⟨base, h⟩
    · exact ⟨.l h, r', base, h⟩
    · rcases hl' _ _ h with h | ⟨base0, h⟩
      · omega
      · have h2 : ρ.l[r]? = some (some (b, base0)) := by rw [hρ, h]
        exact ⟨.l h2, r, base0, h2⟩
  have hfo : ∀ {r' : Nat} {S : Nat → Prop} {items : List (Value × AV)}, ((s.kill r).L.set r o)[r']? = some (OB.forest S items) → r ≠ r' ∧ s.L[r']? = some (OB.forest S items) := fun {r' S items} hh => by
    by_cases e : r = r'
    · subst e
      simp only [List.getElem?_set] at hh
      simp at hh
      exact absurd hh.2 (hof S items)
    · rw [List.getElem?_set_ne e] at hh
      simp only [AS.kill, List.getElem?_map] at hh
      cases hq : s.L[r']? with
      | none => simp [hq] at hh
      | some o0 =>
        cases o0 <;> simp [hq, OB.kill] at hh
        exact ⟨e, by rw [hh.1, hh.2]⟩
  have hno : ∀ b, b < w.heap.size → no (ρ.at r l') b → no ρ b := fun b hb hn => by
    rcases hn with hn | hn
    · exact .inl (hsub b hb hn)
    · exact .inr hn
  have hold : ∀ r', (r' != r) = true → (ρ.at r l').l[r']? = ρ.l[r']? := fun r' hr' => by
    simp only [Env.at]
    rw [List.getElem?_set_ne (fun e => by subst e; simp at hr')]
  have keep : ∀ v x, VR w ρ v x → VR w' (ρ.at r l') v (x.filt fun r' => r' != r) := fun v x hv => hv.mono hf hno _ (fun r' l hp hl => by rw [hold r' hp]; exact hl)
  have keepP : ∀ v x, PR w (no ρ) v x → PR w' (no (ρ.at r l')) v x := fun v x hv => hv.mono (fun b hb hn => hf.same b hb fun h => hn (.inl h)) hf.le hno
  refine ⟨⟨h.dfr, by simp [AS.kill, h.size], fun i v x h1 h2 => ?_, ⟨by simp [Env.at, AS.kill, h.hr.len], fun b hb => Nat.lt_of_lt_of_le (h.hr.xlt b hb) hf.le, fun b hb hx => ?_, fun r1 r2 b base base' h1 h2 => ?_, fun r' o' l h1 h2 => ?_, ⟨fun b hb => Nat.lt_of_lt_of_le (h.hr.t.lt b hb) hf.le, fun b r1 base ht hl1 => ?_, fun r1 S items b hL hS => h.hr.t.sub r1 S items b (hfo hL).2 hS, fun r1 r2 S S' items items' b h1 h2 => h.hr.t.dis r1 r2 S S' items items' b (hfo h1).2 (hfo h2).2⟩⟩⟩, ⟨hf, hsub, fun r' hr' x hx => ?_, rfl⟩⟩
  · simp only [AS.kill, List.getElem?_map] at h2
    cases hq : s.tm[i]? with
    | none => simp [hq] at h2
    | some y => simp [hq] at h2; subst h2; exact keep _ _ (h.tm i v y h1 hq)
  · rcases own_at hb with ⟨r', base, _, h'⟩ | ⟨base, h'⟩ | h'
    · exact h.hr.disj b (.l h') hx
    · rcases hl' _ _ h' with h'' | ⟨base0, h''⟩
      · have := h.hr.xlt b hx; omega
      · exact h.hr.disj b (.l (r := r) (base := base0) (by rw [hρ, h''])) hx
    · exact h.hr.disj b (.inr h') hx
  · have case : ∀ {r1 base}, (ρ.at r l').l[r1]? = some (some (b, base)) → (r1 ≠ r ∧ ρ.l[r1]? = some (some (b, base))) ∨ (r1 = r ∧ l' = some (b, base)) := fun {r1 base} hr1 => by
      simp only [Env.at] at hr1
      by_cases e : r = r1
      · subst e
        simp only [List.getElem?_set] at hr1
        simp at hr1
        exact .inr ⟨rfl, hr1.2⟩
      · rw [List.getElem?_set_ne e] at hr1
        exact .inl ⟨fun e' => e e'.symm, hr1⟩
    rcases case h1 with ⟨n1, g1⟩ | ⟨e1, g1⟩ <;> rcases case h2 with ⟨n2, g2⟩ | ⟨e2, g2⟩
    · exact h.hr.inj _ _ _ _ _ g1 g2
    · rcases hl' _ _ g2 with hh | ⟨base0, hh⟩
      · have := own_lt h.hr (.l g1); omega
      · exact absurd (h.hr.inj _ _ _ _ _ g1 (by rw [hρ, hh])) n1
    · rcases hl' _ _ g1 with hh | ⟨base0, hh⟩
      · have := own_lt h.hr (.l g2); omega
      · exact absurd (h.hr.inj _ _ _ _ _ g2 (by rw [hρ, hh])) n2
    · omega
  · by_cases e : r = r'
    · subst e
      simp only [Env.at, List.getElem?_set] at h2
      simp only [List.getElem?_set] at h1
      simp at h1 h2
      rw [← h2.2, ← h1.2]
      exact he keepP
    · simp only [Env.at] at h2
      rw [List.getElem?_set_ne e] at h1 h2
      simp only [AS.kill, List.getElem?_map] at h1
      cases hq : s.L[r']? with
      | none => simp [hq] at h1
      | some o0 =>
        simp [hq] at h1
        have hent := h.hr.ent r' o0 l hq h2
        have hne : ∀ b base', l = some (b, base') → ∀ base, l0 ≠ some (b, base) := fun b base' hl base e' => by
          subst hl; subst e'
          exact e (h.hr.inj _ _ _ _ _ hρ h2)
        cases o0 with
        | dead => simp [OB.kill] at h1; subst h1; exact hent
        | cells cs =>
          simp [OB.kill] at h1; subst h1
          obtain ⟨b, c, ty, g1, g2, g3, g4⟩ := hent
          refine ⟨b, c, ty, g1, by rw [hsame b (Array.getElem?_eq_some_iff.1 g2).1 (hne _ _ g1)]; exact g2, by simpa using g3, fun i v x h5 h6 => ?_⟩
          rw [List.getElem?_map] at h6
          cases hx : cs[i]? with
          | none => simp [hx] at h6
          | some y => simp [hx] at h6; subst h6; exact keep _ _ (g4 i v y h5 hx)
        | vec k es =>
          simp [OB.kill] at h1; subst h1
          obtain ⟨h0, hl, hd⟩ := hent
          refine ⟨h0, hl, ?_⟩
          rcases hd with hd | ⟨b, base', c, ty, g1, g2, g3, g4⟩
          · exact .inl hd
          · exact .inr ⟨b, base', c, ty, g1, by rw [hsame b (Array.getElem?_eq_some_iff.1 g2).1 (hne _ _ g1)]; exact g2, g3, fun i j ei x h5 h6 => let ⟨v, h7, h8⟩ := g4 i j ei x h5 h6; ⟨v, h7, keepP _ _ h8⟩⟩
        | forest S items =>
          simp [OB.kill] at h1; subst h1
          exact ⟨hent.1, hent.2.keep fun b hS hb => hsame b hb fun base hl0 => h.hr.t.dl b r base (h.hr.t.sub _ _ _ b hq hS) (by rw [hρ, hl0])⟩
  · obtain ⟨_, r2, base2, h2⟩ := hgetT hl1 (h.hr.t.lt b ht)
    exact h.hr.t.dl b r2 base2 ht h2
  · rw [hold r' (by simp; intro e; subst e; exact hfx hr')]; exact hx

/-- The elements that a slice shows. -/
def elemsOf (s : AS) (x : AV) : Option (List (List AV)) :=
  match x with
  | .sl es => some es
  | .os r k off n =>
    match s.L[r]? with
    | some (.vec k' es) => if k = k' ∧ off + n ≤ es.length then some ((es.drop off).take n) else none
    | _ => none
  | .val (.slice none 0 0) => some []
  | _ => none

/-- What a slice of m elements of k cells each holds, as values. -/
structure Shown (P : Program) (w : World) (ρ : Env) (v : Value) (k : Nat) (es : List (List AV)) (news : List Value) : Prop where
  val : ∃ b c, v = .slice b es.length c
  len : news.length = es.length * k
  run : (Builtin.firstCells k es.length v).run P w = .ok news.toArray w
  at_ : 0 < es.length → ∃ ad c, v = .slice (some ad) es.length c ∧ ∀ j u, news[j]? = some u → w.cell? (ad.add j) = some u
  get : ∀ (i j : Nat) ei x, es[i]? = some ei → ei[j]? = some x → ∃ u, news[i * k + j]? = some u ∧ PR w (no ρ) u x

theorem shown_nil (w : World) (ρ : Env) (k : Nat) (b : Option Addr) (c : Nat) : Shown P w ρ (.slice b 0 c) k [] [] where
  val := ⟨b, c, rfl⟩
  len := by simp
  run := by cases b <;> simp [Builtin.firstCells, loadCells, loadCellsFrom]
  at_ h := by simp at h
  get i j ei x h1 := by simp at h1

theorem shown_at {w : World} {ρ : Env} {b o k n c : Nat} {es : List (List AV)} (hn : es.length = n) (hl : ∀ (i : Nat) e, es[i]? = some e → e.length = k)
    (hc : ∀ (i j : Nat) ei x, es[i]? = some ei → ei[j]? = some x → ∃ u, w.cell? ⟨b, o + (i * k + j), none⟩ = some u ∧ PR w (no ρ) u x) : ∃ news, Shown P w ρ (.slice (some ⟨b, o, none⟩) n c) k es news := by
  subst hn
  let f : Nat → Value := fun j => (w.cell? ⟨b, o + j, none⟩).getD undef
  have hex : ∀ j, j < es.length * k → ∃ i j', j = i * k + j' ∧ i < es.length ∧ j' < k := fun j hj => by
    have hk : 0 < k := by
      rcases Nat.eq_zero_or_pos k with h | h
      · subst h; simp at hj
      · exact h
    exact ⟨j / k, j % k, by rw [Nat.mul_comm]; exact (Nat.div_add_mod j k).symm, Nat.div_lt_of_lt_mul (by rw [Nat.mul_comm]; exact hj), Nat.mod_lt _ hk⟩
  have hcell : ∀ j, j < es.length * k → w.cell? ((⟨b, o, none⟩ : Addr).add j) = some (f j) := fun j hj => by
    obtain ⟨i, j', rfl, hi, hj'⟩ := hex j hj
    have he := List.getElem?_eq_getElem hi
    have hel := hl i _ he
    obtain ⟨u, h1, _⟩ := hc i j' _ _ he (List.getElem?_eq_getElem (by omega))
    rw [add_off]
    simp [f, h1]
  have hget : ∀ j, j < es.length * k → ((List.range (es.length * k)).map f)[j]? = some (f j) := fun j hj => by
    rw [List.getElem?_map, List.getElem?_range hj]; rfl
  refine ⟨(List.range (es.length * k)).map f, ⟨_, c, rfl⟩, by simp, ?_, fun _ => ⟨_, c, rfl, fun j u hj => ?_⟩, fun i j ei x h1 h2 => ?_⟩
  · simp only [Builtin.firstCells, run_loadCells w _ _ f hcell]
  · have hlt : j < es.length * k := by
      rcases Nat.lt_or_ge j (es.length * k) with h' | h'
      · exact h'
      · rw [List.getElem?_eq_none (by simpa using h')] at hj; cases hj
    rw [hget j hlt] at hj
    cases hj
    exact hcell j hlt
  · obtain ⟨u, h3, h4⟩ := hc i j ei x h1 h2
    have hel := hl i ei h1
    have hi : i < es.length := by
      rcases Nat.lt_or_ge i es.length with h' | h'
      · exact h'
      · simp [List.getElem?_eq_none h'] at h1
    have hj : j < k := by
      rcases Nat.lt_or_ge j ei.length with h' | h'
      · omega
      · simp [List.getElem?_eq_none h'] at h2
    have hlt : i * k + j < es.length * k := by
      have : i * k + k ≤ es.length * k := by rw [← Nat.succ_mul]; exact Nat.mul_le_mul_right k hi
      omega
    refine ⟨u, ?_, h4⟩
    rw [hget _ hlt]
    simp [f, h3]

theorem elems_sound {s : AS} {x : AV} {es : List (List AV)} {k : Nat} (h : elemsOf s x = some es) (hk : ∀ c ∈ es, c.length = k) {ρ : Env} {w : World} (hr : HR w ρ s.L) {v : Value} (hv : VR w ρ v x) : ∃ news, Shown P w ρ v k es news := by
  have hl : ∀ (i : Nat) e, es[i]? = some e → e.length = k := fun i e he => hk e (List.mem_of_getElem? he)
  unfold elemsOf at h
  split at h
  · cases h
    cases hv with
    | pr hp =>
      cases hp with
      | slnil a c => exact ⟨[], shown_nil w ρ k a c⟩
      | sl b o k' n c es cv hn h0 hc hk' ho hlt hll hcell hread =>
        have hkk : k' = k := by
          have he : es[0]? = some es[0] := List.getElem?_eq_getElem (by omega)
          rw [← hll _ _ he, hl _ _ he]
        subst hkk
        exact shown_at hn hl fun i j ei x h1 h2 => ⟨cv i j, by rw [← Nat.add_assoc]; exact hcell i j ei x h1 h2, hread i j ei x h1 h2⟩
  · rename_i r k' off n
    split at h
    · rename_i k'' es0 hL
      split at h
      · rename_i hc
        cases h
        obtain ⟨rfl, hle⟩ := hc
        cases hv with
        | pr hp => cases hp
        | osnil =>
          simp only [List.take_zero]
          exact ⟨[], shown_nil w ρ k _ _⟩
        | osz =>
          simp only [List.take_zero]
          exact ⟨[], shown_nil w ρ k _ _⟩
        | os r k' off n c b base cs e fz hρ hcn hb hsz =>
          obtain ⟨h0, hll, hd⟩ := hr.ent r _ _ hL hρ
          rcases hd with ⟨hd, _⟩ | ⟨b', base', c', ty, g1, g2, g3, g4⟩
          · cases hd
          · cases g1
            by_cases hn0 : n = 0
            · subst hn0
              simp only [List.take_zero]
              exact ⟨[], shown_nil w ρ k _ _⟩
            · have hkk : k' = k := by
                have he : es0[off]? = some (es0[off]'(by omega)) := List.getElem?_eq_getElem (by omega)
                have h1 := hll _ _ he
                have h2 := hl 0 _ (by rw [List.getElem?_take_of_lt (by omega), List.getElem?_drop]; exact he)
                omega
              subst hkk
              refine shown_at (by simp; omega) hl fun i j ei x h1 h2 => ?_
              have hi : i < n := by
                rcases Nat.lt_or_ge i n with h' | h'
                · exact h'
                · rw [List.getElem?_eq_none (by simp; omega)] at h1; cases h1
              rw [List.getElem?_take_of_lt hi, List.getElem?_drop] at h1
              obtain ⟨u, h3, h4⟩ := g4 _ j ei x h1 h2
              refine ⟨u, ?_, h4⟩
              simp only [World.cell?, g2]
              rw [show base + off * k' + (i * k' + j) = base + (off + i) * k' + j by rw [Nat.add_mul]; omega]
              simpa using h3
      · cases h
    · cases h
  · cases h
    have := val_inv hv; subst this
    exact ⟨[], shown_nil w ρ k _ _⟩
  · cases h

def sAppend (T : TypeId → Ty) (fx : List Nat) (t : TypeId) (x y : AV) (s : AS) (K : AV → AS → Prop) : Prop :=
  match (T t).kd with
  | .slice e => (T e).kd.ok = true ∧ 0 < (T e).size ∧ ∃ news, elemsOf s y = some news ∧ (∀ c ∈ news, c.length = (T e).size ∧ c.all AV.one = true ∧ c.all AV.pure = true) ∧
    match x with
    | .os r k off n => (r ∉ fx) ∧ k = (T e).size ∧ ∃ es, s.L[r]? = some (.vec k es) ∧ off + n = es.length ∧ (n + news.length) * (T e).bytes ≤ 140737488355328 ∧ n + news.length ≤ 9223372036854775807 ∧
      K (.os r k 0 (n + news.length)) { s.kill r with L := (s.kill r).L.set r (.vec k (es.drop off ++ news)) }
    | .val (.slice none 0 0) => news.length * (T e).bytes ≤ 140737488355328 ∧ news.length ≤ 9223372036854775807 ∧ K (.os s.L.length (T e).size 0 news.length) (s.push (.vec (T e).size news))
    | _ => False
  | _ => False

theorem shown_one {w : World} {ρ : Env} {v : Value} {k : Nat} {es : List (List AV)} {news : List Value} (h : Shown P w ρ v k es news) (hc : ∀ c ∈ es, c.length = k ∧ c.all AV.one = true) : ∀ u ∈ news, u.oneCell' = true := by
  intro u hu
  obtain ⟨j, hj, rfl⟩ := List.mem_iff_getElem.1 hu
  have hj' := hj
  rw [h.len] at hj'
  have hk : 0 < k := by
    rcases Nat.eq_zero_or_pos k with h | h
    · subst h; simp at hj'
    · exact h
  have hi : j / k < es.length := Nat.div_lt_of_lt_mul (by rw [Nat.mul_comm]; exact hj')
  have hm : j % k < k := Nat.mod_lt _ hk
  have he := List.getElem?_eq_getElem hi
  have hcl := hc _ (List.mem_of_getElem? he)
  obtain ⟨u, h1, h2⟩ := h.get _ (j % k) _ _ he (List.getElem?_eq_getElem (by omega))
  rw [show j / k * k + j % k = j by rw [Nat.mul_comm]; exact Nat.div_add_mod j k] at h1
  rw [List.getElem?_eq_getElem hj] at h1
  cases h1
  exact one_sound (ρ := ρ) (.pr h2) ((List.all_eq_true.1 hcl.2) _ (List.getElem_mem _))

/-- An append where there is room. -/
theorem run_append_at (hT : TTOk P T) {t ty e : TypeId} (ht : P.underlying t = some (.slice e)) (hok : (T e).kd.ok = true) {w : World} {b : Option Addr} {n cp m : Nat} {v : Value} {news : List Value} (hv : ∃ b2 c2, v = .slice b2 m c2)
    (hf : (Builtin.firstCells (T e).size m v).run P w = .ok news.toArray w) (hroom : n + m ≤ cp) {w' : World}
    (hst : match b with | some a => (storeCells (a.add (n * (T e).size)) news).run P w = .ok () w' | none => w' = w) :
    (Builtin.append_ #[t, t] ty #[.slice b n cp, v]).run P w = .ok (.slice b (n + m) cp) w' := by
  obtain ⟨b2, c2, rfl⟩ := hv
  cases b with
  | none =>
    simp only at hst
    subst hst
    simp [Builtin.append_, run_underlying ht, run_size hT hok, Builtin.lenOf, hroom, hf]
  | some a =>
    simp only at hst
    simp [Builtin.append_, run_underlying ht, run_size hT hok, Builtin.lenOf, hroom, hf, hst]

/-- Old cells, then new ones, then room. -/
theorem row_app {w : World} {ρ : Env} {k : Nat} {es1 es2 : List (List AV)} {olds news rest : List Value} (h1 : olds.length = es1.length * k) (h2 : news.length = es2.length * k)
    (g1 : ∀ (i j : Nat) ei x, es1[i]? = some ei → ei[j]? = some x → ∃ u, olds[i * k + j]? = some u ∧ PR w (no ρ) u x)
    (g2 : ∀ (i j : Nat) ei x, es2[i]? = some ei → ei[j]? = some x → ∃ u, news[i * k + j]? = some u ∧ PR w (no ρ) u x) : RowIs w ρ (olds ++ news ++ rest).toArray 0 k (es1 ++ es2) where
  fits := by simp [h1, h2, Nat.add_mul]
  get i j ei x a b := by
    simp only [Nat.zero_add, List.getElem?_toArray]
    by_cases hi : i < es1.length
    · rw [List.getElem?_append_left hi] at a
      obtain ⟨u, h3, h4⟩ := g1 i j ei x a b
      have hlt : i * k + j < olds.length := by
        rcases Nat.lt_or_ge (i * k + j) olds.length with h' | h'
        · exact h'
        · rw [List.getElem?_eq_none h'] at h3; cases h3
      exact ⟨u, by rw [List.append_assoc, List.getElem?_append_left hlt]; exact h3, h4⟩
    · rw [List.getElem?_append_right (by omega)] at a
      obtain ⟨u, h3, h4⟩ := g2 _ j ei x a b
      have hlt : (i - es1.length) * k + j < news.length := by
        rcases Nat.lt_or_ge ((i - es1.length) * k + j) news.length with h' | h'
        · exact h'
        · rw [List.getElem?_eq_none h'] at h3; cases h3
      have he : i * k + j = olds.length + ((i - es1.length) * k + j) := by
        have hmul : es1.length * k ≤ i * k := Nat.mul_le_mul_right k (by omega)
        rw [h1, Nat.sub_mul]
        omega
      refine ⟨u, ?_, h4⟩
      rw [List.append_assoc, List.getElem?_append_right (by omega), he, show olds.length + ((i - es1.length) * k + j) - olds.length = (i - es1.length) * k + j by omega, List.getElem?_append_left hlt]
      exact h3

theorem sAppend_sound (hT : TTOk P T) {fx : List Nat} {t ty : TypeId} {x y : AV} {s : AS} {K : AV → AS → Prop} (h : sAppend T fx t x y s K) {ρ : Env} {a : Act} {w : World} (hr : Rel ρ s a w) {u u' : Value} (hu : VR w ρ u x) (hu' : VR w ρ u' y) :
    ∃ v w' r s' ρ', (Builtin.append_ #[t, t] ty #[u, u']).run P w = .ok v w' ∧ K r s' ∧ Rel ρ' s' a w' ∧ VR w' ρ' v r ∧ St fx ρ w ρ' w' := by
  unfold sAppend at h
  split at h
  · rename_i e hk
    obtain ⟨hok, hpos, es2, hes2, hall, h⟩ := h
    obtain ⟨i, d, z, h1, h2, h3, h4, h5, h6, h7, h8⟩ := hT.ty t (by rw [hk]; rfl)
    rw [hk] at h3; simp only [KdOk] at h3; subst h3
    obtain ⟨i', d', z', g1, g2, g3, g4, g5, g6, g7, g8⟩ := hT.ty e hok
    obtain ⟨news, hsh⟩ := elems_sound (P := P) hes2 (fun c hc => (hall c hc).1) hr.hr hu'
    have hone := shown_one hsh (fun c hc => ⟨(hall c hc).1, (hall c hc).2.1⟩)
    have hel2 : ∀ (i : Nat) c, es2[i]? = some c → c.length = (T e).size := fun i c hc => (hall c (List.mem_of_getElem? hc)).1
    have hzk : z'.cells.size = (T e).size := by
      have : z'.cells.toList.length = (T e).size := by rw [g7]; exact g8
      simpa using this
    -- a new row made out of old cells and new ones
    have grow : ∀ (es1 : List (List AV)) (olds : List Value) (cap : Nat), olds.length = es1.length * (T e).size → es1.length + es2.length ≤ cap →
        (∀ (i j : Nat) ei x, es1[i]? = some ei → ei[j]? = some x → ∃ u, olds[i * (T e).size + j]? = some u ∧ PR w (no ρ) u x) →
        RowIs w.drew ρ (olds.toArray ++ news.toArray ++ Builtin.zeroCells z'.cells (cap - (es1.length + es2.length))) 0 (T e).size (es1 ++ es2) ∧
        cap * (T e).size ≤ (olds.toArray ++ news.toArray ++ Builtin.zeroCells z'.cells (cap - (es1.length + es2.length))).size := fun es1 olds cap ho hcap hget => by
      have hg : Grow w w.drew := Grow.drew
      refine ⟨?_, ?_⟩
      · have := row_app (w := w.drew) (ρ := ρ) (rest := (Builtin.zeroCells z'.cells (cap - (es1.length + es2.length))).toList) ho hsh.len
          (fun i j ei x a b => let ⟨u, p, q⟩ := hget i j ei x a b; ⟨u, p, q.mono (fun b hb _ => hg.same b hb (fun h => h)) hg.le (fun _ _ h => h)⟩)
          (fun i j ei x a b => let ⟨u, p, q⟩ := hsh.get i j ei x a b; ⟨u, p, q.mono (fun b hb _ => hg.same b hb (fun h => h)) hg.le (fun _ _ h => h)⟩)
        have e1 : (olds ++ news ++ (Builtin.zeroCells z'.cells (cap - (es1.length + es2.length))).toList).toArray = olds.toArray ++ news.toArray ++ Builtin.zeroCells z'.cells (cap - (es1.length + es2.length)) := by simp
        rw [e1] at this
        exact this
      · simp only [Array.size_append, List.size_toArray, size_zeroCells, hzk, ho, hsh.len, ← Nat.add_mul]
        exact Nat.mul_le_mul_right _ (by omega)
    split at h
    · rename_i r k off n
      obtain ⟨hfx, rfl, es, hL, hoff, hby, h63, hK⟩ := h
      generalize hkk : (T e).size = k at *
      have hval := hsh.val
      have hdrop : ∀ (i : Nat) c, (es.drop off ++ es2)[i]? = some c → c.length = k := fun i c hc => by
        obtain ⟨_, hl, _⟩ := hr.hr.ent r _ (ρ.l[r]'(by rw [hr.hr.len]; exact (List.getElem?_eq_some_iff.1 hL).1)) hL (List.getElem?_eq_getElem _)
        by_cases hi : i < (es.drop off).length
        · rw [List.getElem?_append_left hi, List.getElem?_drop] at hc; exact hl _ _ hc
        · rw [List.getElem?_append_right (by omega)] at hc; exact hel2 _ _ hc
      have hlen : (es.drop off ++ es2).length = n + es2.length := by simp; omega
      -- the append makes a new block
      have fresh : ∀ (l0 : Option (Nat × Nat)) (olds : List Value) (old : Nat), ρ.l[r]? = some l0 → olds.length = n * k → n + es2.length > old →
          (∀ (i j : Nat) ei x, (es.drop off)[i]? = some ei → ei[j]? = some x → ∃ u, olds[i * k + j]? = some u ∧ PR w (no ρ) u x) →
          ∃ r' s' ρ', K r' s' ∧ Rel ρ' s' a (w.drew.alloc (.cells (olds.toArray ++ news.toArray ++ Builtin.zeroCells z'.cells (grownCap w (n + es2.length) old e - (n + es2.length))) e)) ∧
            VR (w.drew.alloc (.cells (olds.toArray ++ news.toArray ++ Builtin.zeroCells z'.cells (grownCap w (n + es2.length) old e - (n + es2.length))) e)) ρ' (.slice (some ⟨w.heap.size, 0, none⟩) (n + es2.length) (grownCap w (n + es2.length) old e)) r' ∧
            St fx ρ w ρ' (w.drew.alloc (.cells (olds.toArray ++ news.toArray ++ Builtin.zeroCells z'.cells (grownCap w (n + es2.length) old e - (n + es2.length))) e)) := fun l0 olds old hρ ho _ hget => by
        have hn1 : (es.drop off).length = n := by simp; omega
        have hge := grownCap_ge w (n + es2.length) old e
        obtain ⟨q1, q2⟩ := grow (es.drop off) olds (grownCap w (n + es2.length) old e) (by rw [hn1]; exact ho) (by rw [hn1]; exact hge) hget
        rw [hn1] at q1 q2
        generalize hc : olds.toArray ++ news.toArray ++ Builtin.zeroCells z'.cells (grownCap w (n + es2.length) old e - (n + es2.length)) = c at *
        have hg : Grow w (w.drew.alloc (.cells c e)) := Fr.trans (o' := fun _ => False) Grow.drew (Fr.alloc _ _ _) (fun _ h => False.elim h)
        have hnew := heap_alloc_new w.drew (.cells c e)
        obtain ⟨p1, p2⟩ := hr.revec (fx := fx) hfx hρ (hg.fr _) (fun b hb _ => hg.same b hb (fun h => h)) (l' := some (w.heap.size, 0)) (fun g base hh => by cases hh; exact .inl (Nat.le_refl _)) (.vec k (es.drop off ++ es2))
          fun keepP => ⟨hpos, hdrop, .inr ⟨w.heap.size, 0, c, e, rfl, hnew, by have := q1.fits; omega, fun i j ei x a b => let ⟨u, p, q⟩ := q1.get i j ei x a b; ⟨u, p, keepP _ _ (q.mono (w' := w) (fun _ _ _ => rfl) (Nat.le_refl _) (fun _ _ h => h))⟩⟩⟩
        refine ⟨_, _, _, hK, p1, ?_, p2⟩
        have hrl : r < ρ.l.length := by rw [hr.hr.len]; exact (List.getElem?_eq_some_iff.1 hL).1
        have := VR.os (w := w.drew.alloc (.cells c e)) (ρ := ρ.at r (some (w.heap.size, 0))) r k 0 (n + es2.length) (grownCap w (n + es2.length) old e) w.heap.size 0 c e (0, 0)
          (by simp only [Env.at]; rw [List.getElem?_set_self hrl]) hge hnew (by simpa using q2)
        simpa using this
      cases hu with
      | pr hp => cases hp
      | osnil _ _ hρ =>
        obtain ⟨h0, hl, hd⟩ := hr.hr.ent r _ _ hL hρ
        rcases hd with ⟨_, rfl⟩ | ⟨b, base, c, ty', e1, _⟩
        · simp at hoff
          by_cases hm : es2.length = 0
          · have hes0 : es2 = [] := List.length_eq_zero_iff.1 hm
            subst hes0
            have hn0 : news = [] := List.length_eq_zero_iff.1 (by rw [hsh.len]; simp)
            subst hn0
            have hrun := run_append_at (P := P) hT (ty := ty) h2 hok (b := none) (n := 0) (cp := 0) (m := 0) hval (by rw [hkk]; exact hsh.run) (by omega) (w' := w) rfl
            obtain ⟨p1, p2⟩ := hr.revec (fx := fx) hfx hρ Fr.refl (fun b hb _ => rfl) (l' := none) (fun g base hh => by cases hh) (.vec k (List.drop 0 [] ++ []))
              fun keepP => ⟨hpos, by simp, .inl ⟨rfl, by simp⟩⟩
            refine ⟨_, _, _, _, _, hrun, hK, p1, ?_, p2⟩
            exact .osnil r k (by simp only [Env.at]; rw [List.getElem?_set_self (by rw [hr.hr.len]; exact (List.getElem?_eq_some_iff.1 hL).1)])
          · obtain ⟨ad, c, hv, hcell⟩ := hsh.at_ (by omega)
            subst hv
            have hrun := run_append_nil (P := P) w t ty e i' z' h2 g1 g6 ad es2.length c news (by rw [g4]; exact hsh.len) hcell (by omega) (by omega) (by rw [Nat.zero_add] at hby; rw [g5]; omega)
            obtain ⟨r', s', ρ', q1, q2, q3, q4⟩ := fresh none [] 0 hρ (by simp) (by omega) (by simp)
            exact ⟨_, _, _, _, _, hrun, q1, by simpa using q2, by simpa using q3, by simpa using q4⟩
        · cases e1
      | osz r k off a' b base hρ =>
        obtain ⟨h0, hl, hd⟩ := hr.hr.ent r _ _ hL hρ
        rcases hd with ⟨hd, _⟩ | ⟨b', base', c, ty', e1, e2, e3, e4⟩
        · cases hd
        · cases e1
          by_cases hm : es2.length = 0
          · have hes0 : es2 = [] := List.length_eq_zero_iff.1 hm
            subst hes0
            have hn0 : news = [] := List.length_eq_zero_iff.1 (by rw [hsh.len]; simp)
            subst hn0
            have hrun := run_append_at (P := P) hT (ty := ty) h2 hok (b := a') (n := 0) (cp := 0) (m := 0) hval (by rw [hkk]; exact hsh.run) (by omega) (w' := w) (by cases a' <;> simp [storeCells])
            have hdn : es.drop off = [] := List.drop_eq_nil_of_le (by omega)
            obtain ⟨p1, p2⟩ := hr.revec (fx := fx) hfx hρ Fr.refl (fun b hb _ => rfl) (l' := some (b, base)) (fun g base' hh => by cases hh; exact .inr ⟨base, rfl⟩) (.vec k (es.drop off ++ []))
              fun keepP => ⟨hpos, by rw [hdn]; simp, .inr ⟨b, base, c, ty', rfl, e2, by rw [hdn]; simp; omega, by rw [hdn]; simp⟩⟩
            refine ⟨_, _, _, _, _, hrun, hK, p1, ?_, p2⟩
            exact .osz r k 0 a' b base (by simp only [Env.at]; rw [List.getElem?_set_self (by rw [hr.hr.len]; exact (List.getElem?_eq_some_iff.1 hL).1)])
          · obtain ⟨ad, c, hv, hcell⟩ := hsh.at_ (by omega)
            subst hv
            have hdn : es.drop off = [] := List.drop_eq_nil_of_le (by omega)
            obtain ⟨r', s', ρ', q1, q2, q3, q4⟩ := fresh (some (b, base)) [] 0 hρ (by simp) (by omega) (by rw [hdn]; simp)
            cases a' with
            | none =>
              have hrun := run_append_nil (P := P) w t ty e i' z' h2 g1 g6 ad es2.length c news (by rw [g4]; exact hsh.len) hcell (by omega) (by omega) (by rw [Nat.zero_add] at hby; rw [g5]; omega)
              exact ⟨_, _, _, _, _, hrun, q1, by simpa using q2, by simpa using q3, by simpa using q4⟩
            | some a' =>
              have hrun := run_append_grow (P := P) w t ty e i' z' h2 g1 g6 a' 0 0 [] (by simp) (by simp) ad es2.length c news (by rw [g4]; exact hsh.len) hcell (by omega) (by omega) (growslice_fits (by omega) (by rw [g5]; omega))
              exact ⟨_, _, _, _, _, hrun, q1, by simpa using q2, by simpa using q3, by simpa using q4⟩
      | os r k off n cp b base cs ety fz hρ hcp hb hsz =>
        obtain ⟨h0, hl, hd⟩ := hr.hr.ent r _ _ hL hρ
        rcases hd with ⟨hd, _⟩ | ⟨b', base', c, ty', e1, e2, e3, e4⟩
        · cases hd
        · cases e1
          rw [e2] at hb
          cases hb
          by_cases hroom : n + es2.length ≤ cp
          · have hmul : (off + (n + es2.length)) * k ≤ (off + cp) * k := Nat.mul_le_mul_right k (by omega)
            have hoffk : base + off * k + n * k = base + (off + n) * k := by rw [Nat.add_mul]; omega
            have hfit : base + off * k + n * k + news.length ≤ cs.size := by
              rw [hsh.len]
              rw [show (off + (n + es2.length)) * k = off * k + n * k + es2.length * k by simp only [Nat.add_mul]; omega] at hmul
              omega
            have hst := run_storeCells_at P b (base + off * k + n * k) _ news 0 cs w e2 (by simpa using hfit) hone
            simp only [Nat.add_zero] at hst
            have hrun := run_append_at (P := P) hT (ty := ty) h2 hok (b := some ⟨b, base + off * k, none⟩) (n := n) (cp := cp) (m := es2.length) hval (by rw [hkk]; exact hsh.run) hroom (w' := w.setRow b (stored cs (base + off * k + n * k) news)) (by show (storeCells ((⟨b, base + off * k, none⟩ : Addr).add (n * (T e).size)) news).run P w = _; rw [add_off, hkk]; exact hst)
            have hf : Fr (own ρ) w (w.setRow b (stored cs (base + off * k + n * k) news)) := .setRow e2 (.l hρ) (stored_size hfit)
            obtain ⟨p1, p2⟩ := hr.revec (fx := fx) hfx hρ hf (fun b'' hb'' hn => heap_setRow_other fun e' => hn base (by rw [e'])) (l' := some (b, base + off * k)) (fun g base' hh => by cases hh; exact .inr ⟨base, rfl⟩) (.vec k (es.drop off ++ es2))
              fun keepP => ⟨hpos, hdrop, .inr ⟨b, base + off * k, _, _, rfl, setRow_heap w b cs _ _ _ e2, by rw [stored_size hfit, hlen, Nat.add_mul]; have := hsh.len; omega, fun i j ei x a1 b1 => by
                have hj : j < k := by
                  have := hdrop _ _ a1
                  rcases Nat.lt_or_ge j ei.length with h' | h'
                  · omega
                  · simp [List.getElem?_eq_none h'] at b1
                rw [stored_get hfit]
                by_cases hi : i < (es.drop off).length
                · rw [List.getElem?_append_left hi, List.getElem?_drop] at a1
                  obtain ⟨u, q1, q2⟩ := e4 _ j ei x a1 b1
                  have hin : i < n := by simp at hi; omega
                  have : i * k + k ≤ n * k := by rw [← Nat.succ_mul]; exact Nat.mul_le_mul_right k hin
                  rw [if_neg (by omega)]
                  refine ⟨u, ?_, keepP _ _ q2⟩
                  rw [← q1]; congr 1; rw [Nat.add_mul]; omega
                · rw [List.getElem?_append_right (by omega)] at a1
                  obtain ⟨u, q1, q2⟩ := hsh.get _ j ei x a1 b1
                  have hn1 : (es.drop off).length = n := by simp; omega
                  rw [hn1] at a1 q1 hi
                  have hlt : (i - n) * k + j < news.length := by
                    rcases Nat.lt_or_ge ((i - n) * k + j) news.length with h' | h'
                    · exact h'
                    · rw [List.getElem?_eq_none h'] at q1; cases q1
                  have hmulin : n * k ≤ i * k := Nat.mul_le_mul_right k (by omega)
                  have hsub : (i - n) * k = i * k - n * k := Nat.sub_mul _ _ _
                  rw [if_pos (by omega)]
                  refine ⟨u, ?_, keepP _ _ q2⟩
                  rw [← q1]; congr 1; omega⟩⟩
            refine ⟨_, _, _, _, _, hrun, hK, p1, ?_, p2⟩
            have hrl : r < ρ.l.length := by rw [hr.hr.len]; exact (List.getElem?_eq_some_iff.1 hL).1
            have := VR.os (w := w.setRow b (stored cs (base + off * k + n * k) news)) (ρ := ρ.at r (some (b, base + off * k))) r k 0 (n + es2.length) cp b (base + off * k) _ _ (0, 0)
              (by simp only [Env.at]; rw [List.getElem?_set_self hrl]) hroom (setRow_heap w b cs _ _ _ e2) (by rw [stored_size hfit]; rw [Nat.add_mul] at hsz; simp only [Nat.zero_add]; omega)
            simpa using this
          · -- it grows
            obtain ⟨olds, hso⟩ := shown_at (P := P) (w := w) (ρ := ρ) (b := b) (o := base + off * k) (k := k) (n := n) (c := cp) (es := es.drop off) (by simp; omega) (fun i c' hc' => by rw [List.getElem?_drop] at hc'; exact hl _ _ hc') fun i j ei x a1 b1 => by
              rw [List.getElem?_drop] at a1
              obtain ⟨u, q1, q2⟩ := e4 _ j ei x a1 b1
              refine ⟨u, ?_, q2⟩
              simp only [World.cell?, e2]
              rw [show base + off * k + (i * k + j) = base + (off + i) * k + j by rw [Nat.add_mul]; omega]
              simpa using q1
            have hn1 : (es.drop off).length = n := by simp; omega
            have holen : olds.length = n * k := by rw [hso.len, hn1]
            have hm : 0 < es2.length := by omega
            obtain ⟨ad, c2, hv, hcell⟩ := hsh.at_ hm
            subst hv
            have hocell : ∀ j u, olds[j]? = some u → w.cell? ((⟨b, base + off * k, none⟩ : Addr).add j) = some u := fun j u hj => by
              by_cases hn0 : n = 0
              · subst hn0
                simp at holen
                subst holen
                simp at hj
              · obtain ⟨ad', c', hv', hcell'⟩ := hso.at_ (by omega)
                cases hv'
                exact hcell' j u hj
            have hrun := run_append_grow (P := P) w t ty e i' z' h2 g1 g6 ⟨b, base + off * k, none⟩ n cp olds (by rw [g4]; exact holen) hocell ad es2.length c2 news (by rw [g4]; exact hsh.len) hcell (by omega) (by omega) (growslice_fits (by omega) (by rw [g5]; omega))
            obtain ⟨r', s', ρ', q1, q2, q3, q4⟩ := fresh (some (b, base)) olds cp hρ holen (by omega) hso.get
            exact ⟨_, _, _, _, _, hrun, q1, q2, q3, q4⟩
    · obtain ⟨hby, h63, hK⟩ := h
      have := val_inv hu; subst this
      have hval := hsh.val
      by_cases hm : es2.length = 0
      · have hes0 : es2 = [] := List.length_eq_zero_iff.1 hm
        subst hes0
        have hn0 : news = [] := List.length_eq_zero_iff.1 (by rw [hsh.len]; simp)
        subst hn0
        have hrun := run_append_at (P := P) hT (ty := ty) h2 hok (b := none) (n := 0) (cp := 0) (m := 0) hval hsh.run (by omega) (w' := w) rfl
        have hp := hr.push Fr.refl none (fun b base hh => by cases hh) (.vec (T e).size []) ⟨hpos, by simp, .inl ⟨rfl, rfl⟩⟩
        refine ⟨_, _, _, _, _, hrun, hK, hp, ?_, .push Fr.refl (fun b base hh => by cases hh)⟩
        exact .osnil _ _ (by rw [← hr.hr.len]; exact push_get _ _)
      · obtain ⟨ad, c, hv, hcell⟩ := hsh.at_ (by omega)
        subst hv
        have hrun := run_append_nil (P := P) w t ty e i' z' h2 g1 g6 ad es2.length c news (by rw [g4]; exact hsh.len) hcell (by omega) (by omega) (by rw [g5]; omega)
        have hge := grownCap_ge w es2.length 0 e
        obtain ⟨q1, q2⟩ := grow [] [] (grownCap w es2.length 0 e) (by simp) (by simpa using hge) (by simp)
        simp only [List.length_nil, Nat.zero_add, List.nil_append] at q1 q2
        have e0 : ([] : List Value).toArray ++ news.toArray ++ Builtin.zeroCells z'.cells (grownCap w es2.length 0 e - es2.length) = news.toArray ++ Builtin.zeroCells z'.cells (grownCap w es2.length 0 e - es2.length) := by simp
        rw [e0] at q1 q2
        obtain ⟨ρ', p1, p2, p3⟩ := hr.newVec (fx := fx) (w := w.drew) Grow.drew rfl _ e (T e).size es2.length (grownCap w es2.length 0 e) es2 hpos hel2 rfl hge q2 q1
        exact ⟨_, _, _, _, ρ', hrun, hK, p1, p3, p2⟩
    · cases h
  · cases h

end
end Go.Pc
