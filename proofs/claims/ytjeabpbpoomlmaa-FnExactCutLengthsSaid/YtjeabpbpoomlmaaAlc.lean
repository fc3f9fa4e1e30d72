/- The abstract logic, fourth part: operations that make memory, or write into the call's own. -/
import Derived.Test.YtjeabpbpoomlmaaAlo
set_option linter.unusedSimpArgs false
set_option linter.unusedVariables false
namespace Go.Pc
open Go

section
variable {P : Program} {T : TypeId → Ty}

theorem alloc_old (w : World) (b : Obj) (k : Nat) (hk : k < w.heap.size) : (w.alloc b).heap[k]? = w.heap[k]? := by
  simp only [World.alloc, Array.getElem?_push]
  rw [if_neg (by omega)]

theorem Fr.alloc (o : Nat → Prop) (w : World) (b : Obj) : Fr o w (w.alloc b) where
  le := by simp
  same k hk _ := alloc_old w b k hk
  size k c e f h := ⟨c, by rw [alloc_old w b k (Array.getElem?_eq_some_iff.1 h).1]; exact h, rfl⟩
  os := rfl
  out := rfl
  tape := rfl

/-- One more own block, at a place where nothing was. -/
def Env.push (ρ : Env) (l : Option (Nat × Nat)) : Env := { ρ with l := ρ.l ++ [l] }

theorem own_push {ρ : Env} {b : Nat} {l : Option (Nat × Nat)} (h : own (ρ.push l) b) : own ρ b ∨ ∃ base, l = some (b, base) := by
  rcases h with ⟨r, base, hr⟩ | h
  case inr => exact .inl (.inr h)
  simp only [Env.push] at hr
  by_cases hlt : r < ρ.l.length
  · rw [List.getElem?_append_left hlt] at hr
    exact .inl (.l hr)
  · rw [List.getElem?_append_right (by omega)] at hr
    cases hk : r - ρ.l.length with
    | zero => rw [hk] at hr; simp at hr; exact .inr ⟨base, hr⟩
    | succ k => rw [hk] at hr; simp at hr

theorem push_old {ρ : Env} {l : Option (Nat × Nat)} {r : Nat} {x : Option (Nat × Nat)} (h : ρ.l[r]? = some x) : (ρ.push l).l[r]? = some x := by
  simp only [Env.push]
  rw [List.getElem?_append_left]
  · exact h
  · rcases Nat.lt_or_ge r ρ.l.length with h' | h'
    · exact h'
    · simp [List.getElem?_eq_none h'] at h

theorem St.push {fx : List Nat} {ρ : Env} {w w' : World} {l : Option (Nat × Nat)} (hf : Grow w w') (hl : ∀ b base, l = some (b, base) → w.heap.size ≤ b) : St fx ρ w (ρ.push l) w' where
  fr := hf.fr _
  sub b hb ho := by
    rcases own_push ho with h | ⟨base, h⟩
    · exact h
    · have := hl _ _ h; omega
  fix r _ x hx := push_old hx
  x := rfl

/-- The state with one more own block. -/
def AS.push (s : AS) (o : OB) : AS := { s with L := s.L ++ [o] }

theorem AS.push_forest {s : AS} {o : OB} (hof : ∀ S items, o ≠ .forest S items) {r : Nat} {S : Nat → Prop} {items : List (Value × AV)} (h : (s.push o).L[r]? = some (.forest S items)) : s.L[r]? = some (.forest S items) := by
  simp only [AS.push] at h
  by_cases hr : r < s.L.length
  · rw [List.getElem?_append_left hr] at h; exact h
  · rw [List.getElem?_append_right (by omega)] at h
    cases hk : r - s.L.length with
    | zero => rw [hk] at h; simp at h; exact absurd h (hof S items)
    | succ k => rw [hk] at h; simp at h

theorem Rel.push {ρ : Env} {s : AS} {a : Act} {w w' : World} (h : Rel ρ s a w) (hg : Grow w w') (l : Option (Nat × Nat)) (hl : ∀ b base, l = some (b, base) → w.heap.size ≤ b) (o : OB)
    (he : EntR w' (ρ.push l) l o) (hof : ∀ S items, o ≠ .forest S items := by intro S items hh; cases hh) : Rel (ρ.push l) (s.push o) a w' := by
  have hno : ∀ b, b < w.heap.size → no (ρ.push l) b → no ρ b := fun b hb hn => by
    rcases hn with hn | hn
    · rcases own_push hn with h | ⟨base, h⟩
      · exact .inl h
      · have := hl _ _ h; omega
    · exact .inr hn
  have keep : ∀ {v x}, VR w ρ v x → VR w' (ρ.push l) v x := fun hv => hv.keep (hg.fr _) hno (fun r x hx => push_old hx)
  have keepP : ∀ {v x}, PR w (no ρ) v x → PR w' (no (ρ.push l)) v x := fun hv => hv.mono (fun b hb _ => hg.same b hb (fun h => h)) hg.le hno
  refine ⟨h.dfr, h.size, fun i v x h1 h2 => keep (h.tm i v x h1 h2), ⟨by simp [Env.push, AS.push, h.hr.len], fun b hb => Nat.lt_of_lt_of_le (h.hr.xlt b hb) hg.le, fun b hb hx => ?_, fun r r' b base base' h1 h2 => ?_, fun r o' l' h1 h2 => ?_, ⟨fun b hb => Nat.lt_of_lt_of_le (h.hr.t.lt b hb) hg.le, fun b r base ht hl' => ?_, fun r S items b hL hS => ?_, fun r r' S S' items items' b h1 h2 => ?_⟩⟩⟩
  · rcases own_push hb with h' | ⟨base, h'⟩
    · exact h.hr.disj b h' hx
    · have := hl _ _ h'; have := h.hr.xlt b hx; omega
  · have old : ∀ {r base}, (ρ.push l).l[r]? = some (some (b, base)) → (r < ρ.l.length ∧ ρ.l[r]? = some (some (b, base))) ∨ (r = ρ.l.length ∧ l = some (b, base)) := fun {r base} hr => by
      simp only [Env.push] at hr
      by_cases hlt : r < ρ.l.length
      · rw [List.getElem?_append_left hlt] at hr; exact .inl ⟨hlt, hr⟩
      · rw [List.getElem?_append_right (by omega)] at hr
        cases hk : r - ρ.l.length with
        | zero => rw [hk] at hr; simp at hr; exact .inr ⟨by omega, hr⟩
        | succ k => rw [hk] at hr; simp at hr
    rcases old h1 with ⟨_, g1⟩ | ⟨e1, g1⟩ <;> rcases old h2 with ⟨_, g2⟩ | ⟨e2, g2⟩
    · exact h.hr.inj _ _ _ _ _ g1 g2
    · have := own_lt h.hr (.l g1); have := hl _ _ g2; omega
    · have := own_lt h.hr (.l g2); have := hl _ _ g1; omega
    · omega
  · simp only [Env.push] at h2
    simp only [AS.push] at h1
    by_cases hlt : r < ρ.l.length
    · rw [List.getElem?_append_left hlt] at h2
      rw [List.getElem?_append_left (by rw [← h.hr.len]; exact hlt)] at h1
      have he := h.hr.ent r o' l' h1 h2
      cases o' with
      | dead => exact he
      | cells cs =>
        obtain ⟨b, c, e, g1, g2, g3, g4⟩ := he
        exact ⟨b, c, e, g1, by rw [hg.same b (Array.getElem?_eq_some_iff.1 g2).1 (fun h => h)]; exact g2, g3, fun i v x h5 h6 => keep (g4 i v x h5 h6)⟩
      | vec k es =>
        obtain ⟨h0, hl', hd⟩ := he
        refine ⟨h0, hl', ?_⟩
        rcases hd with hd | ⟨b, base, c, e, g1, g2, g3, g4⟩
        · exact .inl hd
        · exact .inr ⟨b, base, c, e, g1, by rw [hg.same b (Array.getElem?_eq_some_iff.1 g2).1 (fun h => h)]; exact g2, g3,
            fun i j ei x h5 h6 => let ⟨v, h7, h8⟩ := g4 i j ei x h5 h6; ⟨v, h7, keepP h8⟩⟩
      | forest S items => exact ⟨he.1, he.2.keep fun b _ hb => hg.same b hb (fun h => h)⟩
    · rw [List.getElem?_append_right (by omega)] at h2
      rw [List.getElem?_append_right (by rw [← h.hr.len]; omega)] at h1
      rw [← h.hr.len] at h1
      cases hk : r - ρ.l.length with
      | zero => rw [hk] at h1 h2; simp at h1 h2; subst h1; subst h2; exact he
      | succ k => rw [hk] at h2; simp at h2
  · have hlt : b < w.heap.size := h.hr.t.lt b ht
    simp only [Env.push] at hl'
    by_cases hr : r < ρ.l.length
    · rw [List.getElem?_append_left hr] at hl'; exact h.hr.t.dl b r base ht hl'
    · rw [List.getElem?_append_right (by omega)] at hl'
      cases hk : r - ρ.l.length with
      | zero => rw [hk] at hl'; simp at hl'; have := hl _ _ hl'; omega
      | succ k => rw [hk] at hl'; simp at hl'
  · exact h.hr.t.sub r S items b (AS.push_forest hof hL) hS
  · exact h.hr.t.dis r r' S S' items items' b (AS.push_forest hof h1) (AS.push_forest hof h2)

theorem push_get (ρ : Env) (l : Option (Nat × Nat)) : (ρ.push l).l[ρ.l.length]? = some l := by simp [Env.push]

/-- A new block of known cells. -/
theorem Rel.newCells {fx : List Nat} {ρ : Env} {s : AS} {a : Act} {w : World} (h : Rel ρ s a w) (c : Array Value) (e : TypeId) (cs : List AV) (hs : c.size = cs.length)
    (hc : ∀ (i : Nat) v x, c[i]? = some v → cs[i]? = some x → VR w ρ v x) :
    ∃ ρ', Rel ρ' (s.push (.cells cs)) a (w.alloc (.cells c e)) ∧ St fx ρ w ρ' (w.alloc (.cells c e)) ∧ VR (w.alloc (.cells c e)) ρ' (.pointer (some ⟨w.heap.size, 0, none⟩)) (.ptr s.L.length 0) := by
  have hl : ∀ b base, some (w.heap.size, 0) = some (b, base) → w.heap.size ≤ b := fun b base h => by cases h; exact Nat.le_refl _
  have hg : Grow w (w.alloc (.cells c e)) := Fr.alloc _ _ _
  refine ⟨ρ.push (some (w.heap.size, 0)), h.push hg _ hl _ ⟨w.heap.size, c, e, rfl, heap_alloc_new w _, hs, fun i v x h1 h2 => ?_⟩, .push hg hl, ?_⟩
  · refine (hc i v x h1 h2).keep (hg.fr _) (fun b hb hn => ?_) (fun r x hx => push_old hx)
    rcases hn with hn | hn
    · rcases own_push hn with h | ⟨base, h⟩
      · exact .inl h
      · have := hl _ _ h; omega
    · exact .inr hn
  · have := VR.ptr (w := w.alloc (.cells c e)) (ρ := ρ.push (some (w.heap.size, 0))) s.L.length 0 w.heap.size 0 (by rw [← h.hr.len]; exact push_get _ _)
    exact this

def sAlloc (T : TypeId → Ty) (e : TypeId) (s : AS) (K : AV → AS → Prop) : Prop :=
  (T e).kd.ok = true ∧ K (.ptr s.L.length 0) (s.push (.cells ((T e).zero.map AV.val)))

theorem sAlloc_sound (hT : TTOk P T) {fx : List Nat} {e : TypeId} {s : AS} {K : AV → AS → Prop} (h : sAlloc T e s K) {ρ : Env} {a : Act} {w : World} (hr : Rel ρ s a w) :
    ∃ v w' r s' ρ', (Instr.alloc e true (.tuple #[])).run P w = .ok v w' ∧ K r s' ∧ Rel ρ' s' a w' ∧ VR w' ρ' v r ∧ St fx ρ w ρ' w' := by
  obtain ⟨hok, hK⟩ := h
  obtain ⟨i, d, z, h1, h2, h3, h4, h5, h6, h7, _⟩ := hT.ty e hok
  obtain ⟨c1, c2⟩ := zero_sound (w := w) (ρ := ρ) h7
  obtain ⟨ρ', g1, g2, g3⟩ := hr.newCells (fx := fx) z.cells e _ c1 c2
  exact ⟨_, _, _, _, ρ', by simp [Instr.alloc, zeroValue, typeInfo, h1, h6, newVar, newRow], hK, g1, g3, g2⟩

def sBox (x : AV) (s : AS) (K : AV → AS → Prop) : Prop :=
  ∃ cs, cellsOf x = some cs ∧ K (.ptr s.L.length 0) (s.push (.cells cs))

theorem sBox_sound {fx : List Nat} {e : TypeId} {x : AV} {s : AS} {K : AV → AS → Prop} (h : sBox x s K) {ρ : Env} {a : Act} {w : World} (hr : Rel ρ s a w) {u : Value} (hu : VR w ρ u x) :
    ∃ v w' r s' ρ', (Instr.box e u).run P w = .ok v w' ∧ K r s' ∧ Rel ρ' s' a w' ∧ VR w' ρ' v r ∧ St fx ρ w ρ' w' := by
  obtain ⟨cs, hcs, hK⟩ := h
  obtain ⟨c1, c2⟩ := cellsOf_sound hcs hu
  obtain ⟨ρ', g1, g2, g3⟩ := hr.newCells (fx := fx) u.cells e _ c1 c2
  exact ⟨_, _, _, _, ρ', by simp [Instr.box, newVar, newRow], hK, g1, g3, g2⟩

/-! ### Pure cells -/

def AV.pure : AV → Bool
  | .any | .val _ | .sl _ => true
  | _ => false

theorem VR.toPR {w : World} {ρ : Env} {v : Value} {x : AV} (h : VR w ρ v x) (hx : x.pure = true) : PR w (no ρ) v x := by
  cases h <;> first | assumption | (simp [AV.pure] at hx)

/-- A cell that can be stored. -/
def AV.one : AV → Bool
  | .any | .agg _ | .tup _ => false
  | .val v => v.oneCell'
  | _ => true

theorem one_sound {w : World} {ρ : Env} {v : Value} {x : AV} (h : VR w ρ v x) (hx : x.one = true) : v.oneCell' = true := by
  cases x <;> simp only [AV.one] at hx <;> first
    | (cases hx; done)
    | (have := val_inv h; subst this; exact hx)
    | (cases h with
       | pr hp => cases hp <;> rfl
       | _ => rfl)

/-! ### Stores -/

theorem heap_setRow_other {w : World} {g k : Nat} {cs : Array Value} (h : k ≠ g) : (w.setRow g cs).heap[k]? = w.heap[k]? := setRow_other w g k cs h

theorem Fr.setRow {ρ : Env} {w : World} {g : Nat} {old cs : Array Value} {t : TypeId} {f : Nat × Nat} (hg : w.heap[g]? = some (.cells old t f)) (ho : own ρ g) (hs : cs.size = old.size) : Fr (own ρ) w (w.setRow g cs) where
  le := by simp
  same b _ hb := heap_setRow_other (fun e => hb (e ▸ ho))
  size b c e f' h := by
    by_cases hbg : b = g
    · subst hbg
      rw [hg] at h; cases h
      exact ⟨cs, setRow_heap w b old cs t f hg, hs⟩
    · exact ⟨c, by rw [heap_setRow_other hbg]; exact h, rfl⟩
  os := rfl
  out := rfl
  tape := rfl

/-- One own block is written anew, at the same size: all else stays. -/
theorem Rel.setRow {fx : List Nat} {ρ : Env} {s : AS} {a : Act} {w : World} (h : Rel ρ s a w) {r g base : Nat} (hρ : ρ.l[r]? = some (some (g, base))) {old cs : Array Value} {t : TypeId}
    (hg : w.heap[g]? = some (.cells old t (0, 0))) (hs : cs.size = old.size) (o : OB) (he : (∀ v x, VR w ρ v x → VR (w.setRow g cs) ρ v x) → EntR (w.setRow g cs) ρ (some (g, base)) o)
    (hof : ∀ S items, o ≠ .forest S items := by intro S items hh; cases hh) :
    Rel ρ { s with L := s.L.set r o } a (w.setRow g cs) ∧ St fx ρ w ρ (w.setRow g cs) := by
  have hf : Fr (own ρ) w (w.setRow g cs) := .setRow hg (.l hρ) hs
  have hfo : ∀ {r' : Nat} {S : Nat → Prop} {items : List (Value × AV)}, (s.L.set r o)[r']? = some (OB.forest S items) → s.L[r']? = some (OB.forest S items) := fun {r' S items} hh => by
    by_cases hr : r = r'
    · subst hr
      simp only [List.getElem?_set] at hh
      simp at hh
      exact absurd hh.2 (hof S items)
    · rwa [List.getElem?_set_ne hr] at hh
  have keep : ∀ v x, VR w ρ v x → VR (w.setRow g cs) ρ v x := fun v x hv => hv.keep hf (fun _ _ h => h) (fun _ _ h => h)
  have keepP : ∀ v x, PR w (no ρ) v x → PR (w.setRow g cs) (no ρ) v x := fun v x hv => hv.mono (fun b hb hn => hf.same b hb fun h => hn (.inl h)) hf.le (fun _ _ h => h)
  refine ⟨⟨h.dfr, h.size, fun i v x h1 h2 => keep _ _ (h.tm i v x h1 h2), ⟨by simpa using h.hr.len, fun b hb => by simpa using h.hr.xlt b hb, h.hr.disj, h.hr.inj, fun r' o' l h1 h2 => ?_, ⟨fun b hb => by simpa using h.hr.t.lt b hb, h.hr.t.dl, fun r S items b hL hS => h.hr.t.sub r S items b (hfo hL) hS, fun r r' S S' items items' b h1 h2 => h.hr.t.dis r r' S S' items items' b (hfo h1) (hfo h2)⟩⟩⟩, ⟨hf, fun _ _ h => h, fun _ _ _ h => h, rfl⟩⟩
  by_cases hr : r = r'
  · subst hr
    simp only [List.getElem?_set] at h1
    rw [hρ] at h2; cases h2
    simp at h1
    obtain ⟨_, rfl⟩ := h1
    exact he keep
  · rw [List.getElem?_set_ne hr] at h1
    have hne : ∀ b base', l = some (b, base') → b ≠ g := fun b base' hl e => by
      subst hl; subst e
      exact hr (h.hr.inj _ _ _ _ _ hρ h2)
    have hent := h.hr.ent r' o' l h1 h2
    cases o' with
    | dead => exact hent
    | cells cs' =>
      obtain ⟨b, c, e, g1, g2, g3, g4⟩ := hent
      exact ⟨b, c, e, g1, by rw [heap_setRow_other (hne _ _ g1)]; exact g2, g3, fun i v x h5 h6 => keep _ _ (g4 i v x h5 h6)⟩
    | vec k es =>
      obtain ⟨h0, hl, hd⟩ := hent
      refine ⟨h0, hl, ?_⟩
      rcases hd with hd | ⟨b, base', c, e, g1, g2, g3, g4⟩
      · exact .inl hd
      · exact .inr ⟨b, base', c, e, g1, by rw [heap_setRow_other (hne _ _ g1)]; exact g2, g3, fun i j ei x h5 h6 => let ⟨v, h7, h8⟩ := g4 i j ei x h5 h6; ⟨v, h7, keepP _ _ h8⟩⟩
    | forest S items => exact ⟨hent.1, hent.2.keep fun b hS _ => heap_setRow_other fun e => h.hr.t.dl b _ _ (h.hr.t.sub _ _ _ b h1 hS) (e ▸ hρ)⟩

theorem putAt_len {cells cs : List AV} {off : Nat} (h : off + cs.length ≤ cells.length) : (putAt cells off cs).length = cells.length := by
  simp [putAt]; omega

theorem putAt_get {cells cs : List AV} {off : Nat} (h : off + cs.length ≤ cells.length) (i : Nat) :
    (putAt cells off cs)[i]? = if off ≤ i ∧ i < off + cs.length then cs[i - off]? else cells[i]? := by
  simp only [putAt]
  by_cases h1 : i < off
  · rw [if_neg (by omega), List.append_assoc, List.getElem?_append_left (by simp; omega), List.getElem?_take_of_lt h1]
  · by_cases h2 : i < off + cs.length
    · rw [if_pos ⟨by omega, h2⟩, List.append_assoc, List.getElem?_append_right (by simp; omega), List.getElem?_append_left (by simp; omega)]
      congr 1; simp; omega
    · rw [if_neg (by omega), List.getElem?_append_right (by simp; omega), List.getElem?_drop]
      congr 1; simp; omega

/-- The cells of a block after a store. -/
def stored (old : Array Value) (off : Nat) (vs : List Value) : Array Value := (old.toList.take off ++ vs ++ old.toList.drop (off + vs.length)).toArray

theorem stored_size {old : Array Value} {off : Nat} {vs : List Value} (h : off + vs.length ≤ old.size) : (stored old off vs).size = old.size := by
  simp [stored]; omega

theorem stored_get {old : Array Value} {off : Nat} {vs : List Value} (h : off + vs.length ≤ old.size) (i : Nat) :
    (stored old off vs)[i]? = if off ≤ i ∧ i < off + vs.length then vs[i - off]? else old[i]? := by
  simp only [stored, List.getElem?_toArray]
  by_cases h1 : i < off
  · rw [if_neg (by omega), List.append_assoc, List.getElem?_append_left (by simp; omega), List.getElem?_take_of_lt h1]
    simp
  · by_cases h2 : i < off + vs.length
    · rw [if_pos ⟨by omega, h2⟩, List.append_assoc, List.getElem?_append_right (by simp; omega), List.getElem?_append_left (by simp; omega)]
      congr 1; simp; omega
    · rw [if_neg (by omega), List.getElem?_append_right (by simp; omega), List.getElem?_drop]
      rw [Array.getElem?_toList]
      congr 1; simp; omega

def sStore (T : TypeId → Ty) (t : TypeId) (x y : AV) (s : AS) (K : AS → Prop) : Prop :=
  (T t).kd.ok = true ∧ ∃ xs, cellsOf y = some xs ∧ xs.length = (T t).size ∧ xs.all AV.one = true ∧
  match x with
  | .ptr r off => ∃ cs, s.L[r]? = some (.cells cs) ∧ off + xs.length ≤ cs.length ∧ K { s with L := s.L.set r (.cells (putAt cs off xs)) }
  | .vp r k i off => xs.all AV.pure = true ∧ ∃ es, s.L[r]? = some (.vec k es) ∧ ∃ e, es[i]? = some e ∧ off + xs.length ≤ e.length ∧ K { s with L := s.L.set r (.vec k (es.set i (putAt e off xs))) }
  | _ => False

theorem sStore_sound (hT : TTOk P T) {fx : List Nat} {t : TypeId} {x y : AV} {s : AS} {K : AS → Prop} (h : sStore T t x y s K) {ρ : Env} {a : Act} {w : World} (hr : Rel ρ s a w) {v u : Value} (hv : VR w ρ v x) (hu : VR w ρ u y) :
    ∃ w' s', (Instr.storeAt t v u).run P w = .ok () w' ∧ K s' ∧ Rel ρ s' a w' ∧ St fx ρ w ρ w' := by
  obtain ⟨hok, xs, hxs, hlen, hone, h⟩ := h
  obtain ⟨c1, c2⟩ := cellsOf_sound hxs hu
  have hvs : ∀ z ∈ u.cells.toList, z.oneCell' = true := fun z hz => by
    obtain ⟨i, hi, rfl⟩ := List.mem_iff_getElem.1 hz
    have hi' : i < xs.length := by simp at hi; omega
    refine one_sound (c2 i _ xs[i] (by simp at hi; simp [hi]) (List.getElem?_eq_getElem hi')) ?_
    exact (List.all_eq_true.1 hone) _ (List.getElem_mem hi')
  have hsz : (T t).size = u.cells.size := by omega
  have run : ∀ (b off : Nat) (old : Array Value) (e : TypeId), w.heap[b]? = some (.cells old e (0, 0)) → off + u.cells.toList.length ≤ old.size →
      (Instr.storeAt t (.pointer (some ⟨b, off, none⟩)) u).run P w = .ok () (w.setRow b (stored old off u.cells.toList)) := fun b off old e hb hfit => by
    have hst := run_storeCells_at P b off e u.cells.toList 0 old w hb (by simpa using hfit) hvs
    simp only [Nat.add_zero] at hst
    simp only [Instr.storeAt, Instr.sureAddr, Sem.run_bind, Sem.run_pure, Result.andThen_ok, storeVar, run_size hT hok]
    rw [if_neg (by omega), hst]
    rfl
  cases x <;> simp only at h <;> try (cases h; done)
  case ptr r off =>
    obtain ⟨cs, hL, hfit, hK⟩ := h
    cases hv with
    | pr hp => cases hp
    | ptr r off b base hb =>
      obtain ⟨b', c, e, h1, h2, h3, h4⟩ := hr.hr.ent r _ _ hL hb
      cases h1
      rw [Nat.zero_add]
      have hfit' : off + u.cells.toList.length ≤ c.size := by simp; omega
      obtain ⟨g1, g2⟩ := hr.setRow (fx := fx) hb h2 (stored_size hfit') (.cells (putAt cs off xs)) fun keep =>
        ⟨b, _, e, rfl, setRow_heap w b c _ e _ h2, by rw [stored_size hfit', putAt_len hfit]; exact h3, fun i v x h5 h6 => by
          rw [stored_get hfit'] at h5
          rw [putAt_get hfit] at h6
          simp only [Array.length_toList, c1] at h5
          split at h5
          · rename_i hi
            rw [if_pos hi] at h6
            exact keep _ _ (c2 _ _ _ (by simpa using h5) h6)
          · rename_i hi
            rw [if_neg hi] at h6
            exact keep _ _ (h4 _ _ _ h5 h6)⟩
      exact ⟨_, _, run _ _ _ _ h2 hfit', hK, g1, g2⟩
  case vp r k i off =>
    obtain ⟨hpure, es, hL, e, he, hfit, hK⟩ := h
    cases hv with
    | pr hp => cases hp
    | vp r k i off b base hb =>
      obtain ⟨h0, hl, h | ⟨b', base', c, ty, h1, h2, h3, h4⟩⟩ := hr.hr.ent r _ _ hL hb
      · cases h.1
      · cases h1
        have hek := hl i e he
        have hi : i < es.length := by
          rcases Nat.lt_or_ge i es.length with h' | h'
          · exact h'
          · simp [List.getElem?_eq_none h'] at he
        have hmul : i * k + k ≤ es.length * k := by rw [← Nat.succ_mul]; exact Nat.mul_le_mul_right k hi
        have hfit' : base + i * k + off + u.cells.toList.length ≤ c.size := by simp; omega
        obtain ⟨g1, g2⟩ := hr.setRow (fx := fx) hb h2 (stored_size hfit') (.vec k (es.set i (putAt e off xs))) fun keep => by
          refine ⟨h0, fun i' e' he' => ?_, .inr ⟨b, base, _, ty, rfl, setRow_heap w b c _ ty _ h2, by rw [stored_size hfit']; simpa using h3, fun i' j ei x h5 h6 => ?_⟩⟩
          · by_cases hii : i = i'
            · subst hii
              simp only [List.getElem?_set] at he'
              simp [hi] at he'
              subst he'
              rw [putAt_len hfit]; exact hek
            · rw [List.getElem?_set_ne hii] at he'
              exact hl _ _ he'
          · rw [stored_get hfit']
            simp only [Array.length_toList, c1]
            by_cases hii : i = i'
            · subst hii
              simp only [List.getElem?_set] at h5
              simp [hi] at h5
              subst h5
              rw [putAt_get hfit] at h6
              by_cases hin : off ≤ j ∧ j < off + xs.length
              · rw [if_pos hin] at h6
                rw [if_pos (by omega)]
                have hjl : j - off < u.cells.size := by omega
                refine ⟨u.cells[j - off], ?_, ?_⟩
                · rw [show base + i * k + j - (base + i * k + off) = j - off by omega]
                  simp [hjl]
                · have hx := c2 (j - off) _ _ (Array.getElem?_eq_getElem hjl) h6
                  exact (keep _ _ hx).toPR ((List.all_eq_true.1 hpure) _ (List.mem_of_getElem? h6))
              · rw [if_neg hin] at h6
                rw [if_neg (by omega)]
                obtain ⟨v, h7, h8⟩ := h4 i j e x he h6
                refine ⟨v, h7, ?_⟩
                have := keep _ _ (.pr h8)
                cases this with
                | pr hp => exact hp
                | _ => cases h8
            · rw [List.getElem?_set_ne hii] at h5
              obtain ⟨v, h7, h8⟩ := h4 i' j ei x h5 h6
              have hjk : j < k := by
                have := hl _ _ h5
                rcases Nat.lt_or_ge j ei.length with h' | h'
                · omega
                · simp [List.getElem?_eq_none h'] at h6
              have hout : ¬ (base + i * k + off ≤ base + i' * k + j ∧ base + i' * k + j < base + i * k + off + xs.length) := by
                rcases Nat.lt_or_gt_of_ne hii with hlt | hgt
                · have : i * k + k ≤ i' * k := by rw [← Nat.succ_mul]; exact Nat.mul_le_mul_right k hlt
                  omega
                · have : i' * k + k ≤ i * k := by rw [← Nat.succ_mul]; exact Nat.mul_le_mul_right k hgt
                  omega
              rw [if_neg hout]
              refine ⟨v, h7, ?_⟩
              have := keep _ _ (.pr h8)
              cases this with
              | pr hp => exact hp
              | _ => cases h8
        exact ⟨_, _, run _ _ _ _ h2 hfit', hK, g1, g2⟩

/-! ### Rows of one's own: made, built, appended to -/

/-- A row of cells in a block, as elements of k cells. -/
structure RowIs (w : World) (ρ : Env) (c : Array Value) (base k : Nat) (es : List (List AV)) : Prop where
  fits : base + es.length * k ≤ c.size
  get : ∀ (i j : Nat) ei x, es[i]? = some ei → ei[j]? = some x → ∃ v, c[base + i * k + j]? = some v ∧ PR w (no ρ) v x

/-- A new own row. -/
theorem Rel.newVec {fx : List Nat} {ρ : Env} {s : AS} {a : Act} {w w0 : World} (h : Rel ρ s a w0) (hg0 : Grow w0 w) (hsz : w.heap.size = w0.heap.size) (c : Array Value) (e : TypeId) (k n cp : Nat) (es : List (List AV)) (hk : 0 < k) (hl : ∀ (i : Nat) e, es[i]? = some e → e.length = k)
    (_hn : es.length = n) (hcp : n ≤ cp) (hcs : cp * k ≤ c.size) (hr : RowIs w ρ c 0 k es) :
    ∃ ρ', Rel ρ' (s.push (.vec k es)) a (w.alloc (.cells c e)) ∧ St fx ρ w0 ρ' (w.alloc (.cells c e)) ∧ VR (w.alloc (.cells c e)) ρ' (.slice (some ⟨w.heap.size, 0, none⟩) n cp) (.os s.L.length k 0 n) := by
  have hlb : ∀ b base, some (w.heap.size, 0) = some (b, base) → w.heap.size ≤ b := fun b base h => by cases h; exact Nat.le_refl _
  have hlb0 : ∀ b base, some (w.heap.size, 0) = some (b, base) → w0.heap.size ≤ b := fun b base h => by cases h; omega
  have hg1 : Grow w (w.alloc (.cells c e)) := Fr.alloc _ _ _
  have hg : Grow w0 (w.alloc (.cells c e)) := hg0.trans hg1 (fun _ h => h.elim)
  have keepP : ∀ {v x}, PR w (no ρ) v x → PR (w.alloc (.cells c e)) (no (ρ.push (some (w.heap.size, 0)))) v x := fun hv => hv.mono (fun b hb _ => hg1.same b hb (fun h => h)) hg1.le fun b hb hn => by
    rcases hn with hn | hn
    · rcases own_push hn with h | ⟨base, h⟩
      · exact .inl h
      · have := hlb _ _ h; omega
    · exact .inr hn
  refine ⟨ρ.push (some (w.heap.size, 0)), h.push hg _ hlb0 _ ⟨hk, hl, .inr ⟨w.heap.size, 0, c, e, rfl, heap_alloc_new w _, by have := hr.fits; omega, fun i j ei x h1 h2 => ?_⟩⟩, .push hg hlb0, ?_⟩
  · obtain ⟨v, h3, h4⟩ := hr.get i j ei x h1 h2
    exact ⟨v, h3, keepP h4⟩
  · have := VR.os (w := w.alloc (.cells c e)) (ρ := ρ.push (some (w.heap.size, 0))) s.L.length k 0 n cp w.heap.size 0 c e (0, 0) (by rw [← h.hr.len]; exact push_get _ _) hcp (heap_alloc_new w _) (by simpa using hcs)
    simpa using this

/-- make([]T, n) -/
def sMake (T : TypeId → Ty) (t : TypeId) (x y : AV) (s : AS) (K : AV → AS → Prop) : Prop :=
  match (T t).kd with
  | .slice e => (T e).kd.ok = true ∧ 0 < (T e).size ∧
    match x, y with
    | .val (.int _ n), .val (.int _ m) => n = m ∧ 0 ≤ n ∧ (T e).bytes * n.toNat ≤ 281474976710656 ∧ n.toNat ≤ 9223372036854775807 ∧
      K (.os s.L.length (T e).size 0 n.toNat) (s.push (.vec (T e).size (List.replicate n.toNat ((T e).zero.map AV.val))))
    | _, _ => False
  | _ => False

theorem made_get (z : Array Value) (n k i j : Nat) (hk : z.size = k) (hi : i < n) (hj : j < k) : (madeCells z (n * k))[i * k + j]? = some z[j]! := by
  have hlt : i * k + j < n * k := by
    have : i * k + k ≤ n * k := by rw [← Nat.succ_mul]; exact Nat.mul_le_mul_right k hi
    omega
  simp only [madeCells, hk]
  rw [Array.getElem?_map, Array.getElem?_range, if_pos hlt]
  simp only [Option.map_some]
  rw [Nat.add_comm, Nat.add_mul_mod_self_right, Nat.mod_eq_of_lt hj]

theorem zeroRow {w : World} {ρ : Env} {z : Value} {l : List Value} {k : Nat} (hz : z.cells.toList = l) (hk : l.length = k) (n : Nat) : RowIs w ρ (madeCells z.cells (n * k)) 0 k (List.replicate n (l.map AV.val)) where
  fits := by simp [size_madeCells]
  get i j ei x h1 h2 := by
    rw [List.getElem?_replicate] at h1
    split at h1
    · rename_i hi
      cases h1
      rw [List.getElem?_map] at h2
      cases hj : l[j]? with
      | none => simp [hj] at h2
      | some v =>
        simp [hj] at h2; subst h2
        have hjl : j < l.length := by
          rcases Nat.lt_or_ge j l.length with h' | h'
          · exact h'
          · simp [List.getElem?_eq_none h'] at hj
        have hzs : z.cells.size = k := by rw [← hk, ← hz]; simp
        refine ⟨v, ?_, .val v⟩
        rw [Nat.zero_add, made_get _ _ _ _ _ hzs hi (by omega)]
        congr 1
        have : z.cells[j]? = some v := by rw [← hj, ← hz]; simp
        rw [getElem!_def, this]
    · cases h1

theorem sMake_sound (hT : TTOk P T) {fx : List Nat} {t : TypeId} {x y : AV} {s : AS} {K : AV → AS → Prop} (h : sMake T t x y s K) {ρ : Env} {a : Act} {w : World} (hr : Rel ρ s a w) {u u' : Value} (hu : VR w ρ u x) (hu' : VR w ρ u' y) :
    ∃ v w' r s' ρ', (Instr.makeSlice t u u').run P w = .ok v w' ∧ K r s' ∧ Rel ρ' s' a w' ∧ VR w' ρ' v r ∧ St fx ρ w ρ' w' := by
  unfold sMake at h
  split at h
  · rename_i e hk
    obtain ⟨hok, hpos, h⟩ := h
    obtain ⟨i, d, z, h1, h2, h3, h4, h5, h6, h7, h8⟩ := hT.ty t (by rw [hk]; rfl)
    rw [hk] at h3; simp only [KdOk] at h3; subst h3
    obtain ⟨i', d', z', g1, g2, g3, g4, g5, g6, g7, g8⟩ := hT.ty e hok
    split at h
    · rename_i kl n kc m
      obtain ⟨rfl, hn0, hby, h63, hK⟩ := h
      have := val_inv hu; subst this
      have := val_inv hu'; subst this
      have hby' : (i'.bytes : Int) * n ≤ 281474976710656 := by
        obtain ⟨m, rfl⟩ := Int.eq_ofNat_of_zero_le hn0
        rw [g5]
        rw [Int.toNat_natCast] at hby
        rw [← Int.natCast_mul]
        omega
      have hrun := run_make (P := P) w t e i' z' h2 g1 g6 kl kc n n hn0 (Int.le_refl _) hby' (by omega)
      rw [g4] at hrun
      obtain ⟨ρ', q1, q2, q3⟩ := hr.newVec (fx := fx) (Fr.refl) rfl (madeCells z'.cells (n.toNat * (T e).size)) e (T e).size n.toNat n.toNat (List.replicate n.toNat ((T e).zero.map AV.val)) hpos
        (fun i e' he => by rw [List.getElem?_replicate] at he; split at he <;> cases he; simp [g8]) (by simp) (Nat.le_refl _) (by simp [size_madeCells]) (zeroRow g7 g8 _)
      exact ⟨_, _, _, _, ρ', hrun, hK, q1, q3, q2⟩
    · cases h
  · cases h

/-! ### Composite literals of slices -/

/-- The cells of a literal's elements. -/
def litRow (k : Nat) : List AV → Option (List (List AV))
  | [] => some []
  | x :: l =>
    match cellsOf x, litRow k l with
    | some cs, some r => if cs.length = k ∧ cs.all AV.pure = true then some (cs :: r) else none
    | _, _ => none

/-- The parts of a literal stand in order: 0, 1, 2 .. -/
def inOrd (n : Nat) : List (Nat × AV) → Option (List AV)
  | [] => some []
  | (i, x) :: l => if i = n then (inOrd (n + 1) l).map (x :: ·) else none

theorem litRow_sound {k : Nat} {w : World} {ρ : Env} : ∀ (xs : List AV) (es : List (List AV)) (vs : List Value), litRow k xs = some es → vs.length = xs.length → (∀ (i : Nat) v x, vs[i]? = some v → xs[i]? = some x → VR w ρ v x) →
    es.length = xs.length ∧ (∀ (i : Nat) v e, vs[i]? = some v → es[i]? = some e → e.length = k ∧ v.cells.size = k ∧ ∀ (j : Nat) u y, v.cells[j]? = some u → e[j]? = some y → PR w (no ρ) u y) := by
  intro xs
  induction xs with
  | nil => intro es vs h hl _; simp [litRow] at h; subst h; simp
  | cons x xs ih =>
    intro es vs h hl hv
    cases vs with
    | nil => simp at hl
    | cons v vs =>
      simp only [litRow] at h
      split at h
      · rename_i cs r hcs hr
        split at h
        · rename_i hc
          cases h
          obtain ⟨h1, h2⟩ := ih r vs hr (by simpa using hl) (fun i v x a b => hv (i + 1) v x a b)
          obtain ⟨c1, c2⟩ := cellsOf_sound hcs (hv 0 v x rfl rfl)
          refine ⟨by simp [h1], fun i v' e hv' he => ?_⟩
          cases i with
          | zero =>
            simp at hv' he; subst hv'; subst he
            exact ⟨hc.1, by omega, fun j u y a b => (c2 j u y a b).toPR ((List.all_eq_true.1 hc.2) _ (List.mem_of_getElem? b))⟩
          | succ i => exact h2 i v' e (by simpa using hv') (by simpa using he)
        · cases h
      · cases h

theorem foldl_fill (k : Nat) (_hk : 0 < k) : ∀ (vs : List Value) (n : Nat) (c : Array Value), (∀ v ∈ vs, v.cells.size = k) → (n + vs.length) * k ≤ c.size →
    ∃ c', Instr.fill (fun i => some (i * k, k)) c (vs.zipIdx n |>.map fun p => (p.2, p.1)) = some c' ∧ c'.size = c.size ∧
      ∀ i j, j < k → c'[i * k + j]? = if n ≤ i ∧ i < n + vs.length then (vs[i - n]?.bind fun v => v.cells[j]?) else c[i * k + j]? := by
  intro vs
  induction vs with
  | nil => intro n c _ _; exact ⟨c, rfl, rfl, fun i j hj => by rw [if_neg (by simp)]⟩
  | cons v vs ih =>
    intro n c hv hsz
    have hvk := hv v (by simp)
    simp only [List.length_cons] at hsz
    have h1 : n * k + k ≤ c.size := by
      have : (n + 1) * k ≤ (n + (vs.length + 1)) * k := Nat.mul_le_mul_right k (by omega)
      rw [Nat.succ_mul] at this
      omega
    simp only [List.zipIdx_cons, List.map_cons, Instr.fill]
    rw [if_neg (by rw [hvk]; simp; omega)]
    have hfold := foldl_put v.cells.toList (n * k) 0 c
    rw [← Array.foldl_toList, Array.toList_zipIdx]
    obtain ⟨c', g1, g2, g3⟩ := ih (n + 1) _ (fun v' hv' => hv v' (by simp [hv'])) (by rw [hfold.1]; rw [show n + 1 + vs.length = n + (vs.length + 1) by omega]; exact hsz)
    refine ⟨c', g1, by rw [g2, hfold.1], fun i j hj => ?_⟩
    rw [g3 i j hj]
    have hget := hfold.2 (i * k + j) (by simp; omega)
    simp only [Nat.add_zero, Array.length_toList] at hget
    by_cases hin : i = n
    · subst hin
      rw [if_neg (by omega), if_pos (by simp), hget, if_pos (by omega)]
      simp
    · by_cases hr : n + 1 ≤ i ∧ i < n + 1 + vs.length
      · rw [if_pos hr, if_pos (by simp; omega), show i - n = (i - (n + 1)) + 1 by omega, List.getElem?_cons_succ]
      · rw [if_neg hr, if_neg (by simp; omega), hget, if_neg]
        rintro ⟨p1, p2⟩
        rcases Nat.lt_or_gt_of_ne hin with hlt | hgt
        · have : i * k + k ≤ n * k := by rw [← Nat.succ_mul]; exact Nat.mul_le_mul_right k hlt
          omega
        · have : n * k + k ≤ i * k := by rw [← Nat.succ_mul]; exact Nat.mul_le_mul_right k hgt
          omega

theorem inOrd_sound : ∀ (ps : List (Nat × AV)) (n : Nat) (xs : List AV), inOrd n ps = some xs → ∀ (vs : List (Nat × Value)), vs.length = ps.length → (∀ (i : Nat) v p, vs[i]? = some v → ps[i]? = some p → v.1 = p.1) →
    vs = ((vs.map Prod.snd).zipIdx n).map (fun p => (p.2, p.1)) ∧ ps.map Prod.snd = xs := by
  intro ps
  induction ps with
  | nil => intro n xs h vs hl _; simp [inOrd] at h; subst h; simp at hl; subst hl; simp
  | cons p ps ih =>
    intro n xs h vs hl hv
    obtain ⟨i, x⟩ := p
    cases vs with
    | nil => simp at hl
    | cons v vs =>
      simp only [inOrd] at h
      split at h
      · rename_i hi
        subst hi
        cases hr : inOrd (i + 1) ps with
        | none => simp [hr] at h
        | some r =>
          simp [hr] at h
          subst h
          obtain ⟨h1, h2⟩ := ih (i + 1) r hr vs (by simpa using hl) (fun j v p a b => hv (j + 1) v p a b)
          have h0 := hv 0 v (i, x) rfl rfl
          simp only at h0
          refine ⟨?_, by simp [h2]⟩
          simp only [List.map_cons, List.zipIdx_cons]
          rw [← h1]
          rw [← h0]
      · cases h

def sLit (T : TypeId → Ty) (bo : Bool) (t : TypeId) (n : Nat) (ps : List (Nat × AV)) (s : AS) (K : AV → AS → Prop) : Prop :=
  match (T t).kd with
  | .slice e => (T e).kd.ok = true ∧ 0 < (T e).size ∧ n * (T e).size ≤ 16777216 ∧ ps.length = n ∧ ∃ xs, inOrd 0 ps = some xs ∧ ∃ es, litRow (T e).size xs = some es ∧
    (if bo || n == 0 then K (.os s.L.length (T e).size 0 n) (s.push (.vec (T e).size es)) else K (.sl es) s)
  | _ => False

theorem sLit_sound2 (hT : TTOk P T) {fx : List Nat} {bo : Bool} {t : TypeId} {n : Nat} {ps : List (Nat × AV)} {s : AS} {K : AV → AS → Prop} (h : sLit T bo t n ps s K) {ρ : Env} {a : Act} {w : World} (hr : Rel ρ s a w)
    {vs : Array (Nat × Value)} (hvl : vs.size = ps.length) (hv : ∀ (i : Nat) v p, vs[i]? = some v → ps[i]? = some p → v.1 = p.1 ∧ VR w ρ v.2 p.2) :
    ∃ v w' r s' ρ', (Instr.buildSlice t n vs).run P w = .ok v w' ∧ K r s' ∧ Rel ρ' s' a w' ∧ VR w' ρ' v r ∧ St fx ρ w ρ' w' ∧ (s' = s → ρ' = ρ ∧ Grow w w') := by
  unfold sLit at h
  split at h
  · rename_i e hk
    obtain ⟨hok, hpos, h24, hpn, xs, hxs, es, hes, h⟩ := h
    obtain ⟨i, d, z, h1, h2, h3, h4, h5, h6, h7, h8⟩ := hT.ty t (by rw [hk]; rfl)
    rw [hk] at h3; simp only [KdOk] at h3; subst h3
    obtain ⟨i', d', z', g1, g2, g3, g4, g5, g6, g7, g8⟩ := hT.ty e hok
    generalize hkk : (T e).size = k at *
    obtain ⟨o1, o2⟩ := inOrd_sound ps 0 xs hxs vs.toList (by simpa using hvl) (fun i v p a b => (hv i v p (by simpa using a) b).1)
    have hxl : xs.length = n := by rw [← o2]; simpa using hpn
    have hval : ∀ (i : Nat) v x, (vs.toList.map Prod.snd)[i]? = some v → xs[i]? = some x → VR w ρ v x := fun i v x a b => by
      rw [← o2, List.getElem?_map] at b
      rw [List.getElem?_map] at a
      cases hp : ps[i]? with
      | none => simp [hp] at b
      | some p =>
        cases hq : vs.toList[i]? with
        | none => simp [hq] at a
        | some q =>
          simp [hp] at b; simp [hq] at a
          subst a; subst b
          exact (hv i q p (by simpa using hq) hp).2
    obtain ⟨l1, l2⟩ := litRow_sound xs es (vs.toList.map Prod.snd) hes (by simp; omega) hval
    have hcsz : ∀ v ∈ vs.toList.map Prod.snd, v.cells.size = k := fun v hv' => by
      obtain ⟨i, hi, hiv⟩ := List.mem_iff_getElem.1 hv'
      have hie : i < es.length := by simp at hi; omega
      exact (l2 i v es[i] (by rw [← hiv]; exact List.getElem?_eq_getElem hi) (List.getElem?_eq_getElem hie)).2.1
    obtain ⟨c', f1, f2, f3⟩ := foldl_fill k hpos (vs.toList.map Prod.snd) 0 (madeCells z'.cells (n * k)) hcsz (by simp [size_madeCells]; rw [show vs.size = n by omega]; exact Nat.le_refl _)
    rw [← o1] at f1
    have hzk : z'.cells.size = k := by
      have : z'.cells.toList.length = k := by rw [g7]; exact g8
      simpa using this
    have hrun : (Instr.buildSlice t n vs).run P w = .ok (.slice (some ⟨w.heap.size, 0, none⟩) n n) (w.alloc (.cells c' e)) := by
      have hsz0 : (sizeOf e).run P w = .ok k w := by rw [run_size hT hok, hkk]
      simp only [Instr.buildSlice, Sem.run_bind, run_underlying h2, Result.andThen_ok, hsz0]
      rw [if_neg (by omega)]
      by_cases hz : n * k = 0
      · have e0 : (Array.range (n * k)).map (fun i => (#[] : Array Value)[i % (#[] : Array Value).size]!) = madeCells z'.cells (n * k) := by rw [hz]; simp [madeCells]
        simp only [if_pos hz, Sem.run_pure, Result.andThen_ok, Sem.run_bind]
        rw [e0, f1]
        simp [newRow]
      · simp only [if_neg hz, Sem.run_bind, zeroValue, typeInfo, run_program, Result.andThen_ok, g1, Sem.run_pure, g6]
        have e0 : (Array.range (n * k)).map (fun i => z'.cells[i % z'.cells.size]!) = madeCells z'.cells (n * k) := rfl
        rw [e0, f1]
        simp [newRow]
    have hel : ∀ (i : Nat) e, es[i]? = some e → e.length = k := fun i e' he => by
      have hie : i < (vs.toList.map Prod.snd).length := by
        rcases Nat.lt_or_ge i es.length with h' | h'
        · simp; omega
        · simp [List.getElem?_eq_none h'] at he
      exact (l2 i _ e' (List.getElem?_eq_getElem hie) he).1
    have hrow : RowIs w ρ c' 0 k es := ⟨by rw [f2]; simp [size_madeCells]; rw [show es.length = n by omega]; exact Nat.le_refl _, fun i j ei x a b => by
      have hj : j < k := by
        have := hel _ _ a
        rcases Nat.lt_or_ge j ei.length with h' | h'
        · omega
        · simp [List.getElem?_eq_none h'] at b
      have hie : i < (vs.toList.map Prod.snd).length := by
        rcases Nat.lt_or_ge i es.length with h' | h'
        · simp; omega
        · simp [List.getElem?_eq_none h'] at a
      obtain ⟨q1, q2, q3⟩ := l2 i _ ei (List.getElem?_eq_getElem hie) a
      have hjc : j < ((vs.toList.map Prod.snd)[i]).cells.size := by omega
      refine ⟨((vs.toList.map Prod.snd)[i]).cells[j], ?_, q3 j _ x (Array.getElem?_eq_getElem hjc) b⟩
      rw [Nat.zero_add, f3 i j hj, if_pos ⟨Nat.zero_le _, by omega⟩, Nat.sub_zero, List.getElem?_eq_getElem hie]
      simp⟩
    split at h
    · obtain ⟨ρ', q1, q2, q3⟩ := hr.newVec (fx := fx) Fr.refl rfl c' e k n n es hpos hel (by omega) (Nat.le_refl _) (by rw [f2]; simp [size_madeCells]) hrow
      exact ⟨_, _, _, _, ρ', hrun, h, q1, q3, q2, fun e => by have := congrArg (fun x : AS => x.L.length) e; simp [AS.push] at this⟩
    · rename_i hb
      have hg : Grow w (w.alloc (.cells c' e)) := Fr.alloc _ _ _
      refine ⟨_, _, _, _, ρ, hrun, h, hr.grow hg, ?_, .grow hg, fun _ => ⟨rfl, hg⟩⟩
      have hn0 : 0 < n := by simp at hb; omega
      refine .pr (.sl w.heap.size 0 k n n es (fun i j => c'[i * k + j]?.getD undef) (by omega) hn0 (Nat.le_refl _) hpos (fun hno => ?_) (by simp) hel (fun i j e' x a b => ?_) fun i j e' x a b => ?_)
      · rcases hno with hno | hno
        · have := own_lt hr.hr hno; omega
        · have := hr.hr.xlt _ hno; omega
      · obtain ⟨v, q1, _⟩ := hrow.get i j e' x a b
        rw [Nat.zero_add] at q1
        rw [Nat.zero_add, World.cell?_alloc_new, q1]; rfl
      · obtain ⟨v, q1, q2⟩ := hrow.get i j e' x a b
        rw [Nat.zero_add] at q1
        rw [q1]
        exact q2.mono (fun b hb _ => hg.same b hb (fun h => h)) hg.le (fun _ _ h => h)
  · cases h

theorem sLit_sound (hT : TTOk P T) {fx : List Nat} {bo : Bool} {t : TypeId} {n : Nat} {ps : List (Nat × AV)} {s : AS} {K : AV → AS → Prop} (h : sLit T bo t n ps s K) {ρ : Env} {a : Act} {w : World} (hr : Rel ρ s a w)
    {vs : Array (Nat × Value)} (hvl : vs.size = ps.length) (hv : ∀ (i : Nat) v p, vs[i]? = some v → ps[i]? = some p → v.1 = p.1 ∧ VR w ρ v.2 p.2) :
    ∃ v w' r s' ρ', (Instr.buildSlice t n vs).run P w = .ok v w' ∧ K r s' ∧ Rel ρ' s' a w' ∧ VR w' ρ' v r ∧ St fx ρ w ρ' w' := by
  obtain ⟨v, w', r, s', ρ', h1, h2, h3, h4, h5, _⟩ := sLit_sound2 hT (fx := fx) h hr hvl hv
  exact ⟨v, w', r, s', ρ', h1, h2, h3, h4, h5⟩

end
end Go.Pc
