/- The abstract logic, first part: abstract values, what it means that a value of the model reads as one in a world, and that this is kept when a world grows. -/
import Derived.WalkKit
import Derived.StillTail
set_option linter.unusedSimpArgs false
set_option linter.unusedVariables false
namespace Go.Pc
open Go

/-- A rule in this dress is not taken for a definitional one: proofs by it have terms. -/
theorem nrf.{u} {α : Sort u} {a b : α} (h : a = b) : a = b := by cases h; rfl

/-- Abstract values: 'any' (nothing is known), 'val' (this very value), aggregates, tuples, immutable slices by value ('sl': the elements, each a list of cells), pointers into immutable memory ('ip'), pointers into own blocks ('ptr', 'vp'), own slices ('os'), functions. -/
inductive AV where
  | any
  | val (v : Value)
  | agg (l : List AV)
  | tup (l : List AV)
  | sl (es : List (List AV))
  | ip (cs : List AV)
  | ptr (r off : Nat)
  | vp (r k i off : Nat)
  | os (r k off n : Nat)
  | fn (f : FuncId) (caps : List AV)
  deriving Inhabited

/-- An own block: gone, a row of known cells, a growing row of elements of k cells each, or values with all their memory, each in blocks of its own. -/
inductive OB where
  | dead
  | cells (cs : List AV)
  | vec (k : Nat) (es : List (List AV))
  | forest (S : Nat → Prop) (items : List (Value × AV))
  | slab (cs : List AV)
  deriving Inhabited

/-- Where the own blocks lie; and which further blocks (the callers' own) nothing that is immutable may lie in. -/
structure Env where
  l : List (Option (Nat × Nat))
  X : Nat → Prop
  T : Nat → Prop := fun _ => False

def ownl (ρ : Env) (b : Nat) : Prop := ∃ (r base : Nat), ρ.l[r]? = some (some (b, base))
def own (ρ : Env) (b : Nat) : Prop := ownl ρ b ∨ ρ.T b
theorem own.l {ρ : Env} {b r base : Nat} (h : ρ.l[r]? = some (some (b, base))) : own ρ b := .inl ⟨r, base, h⟩

def no (ρ : Env) (b : Nat) : Prop := own ρ b ∨ ρ.X b

/-- A value reads, in a world, as an abstract value without own parts; all its memory lies outside of the own blocks. -/
inductive PR (w : World) (own : Nat → Prop) : Value → AV → Prop
  | any (v) : PR w own v .any
  | val (v) : PR w own v (.val v)
  | slnil (a c) : PR w own (.slice a 0 c) (.sl [])
  | sl (b o k n c : Nat) (es : List (List AV)) (cv : Nat → Nat → Value) (hn : es.length = n) (h0 : 0 < n) (hc : n ≤ c) (hk : 0 < k) (ho : ¬ own b)
      (hlt : b < w.heap.size) (hl : ∀ (i : Nat) e, es[i]? = some e → e.length = k)
      (hcell : ∀ (i j : Nat) e x, es[i]? = some e → e[j]? = some x → w.cell? ⟨b, o + i * k + j, none⟩ = some (cv i j))
      (hread : ∀ (i j : Nat) e x, es[i]? = some e → e[j]? = some x → PR w own (cv i j) x) :
      PR w own (.slice (some ⟨b, o, none⟩) n c) (.sl es)

inductive VR (w : World) (ρ : Env) : Value → AV → Prop
  | pr {v x} (h : PR w (no ρ) v x) : VR w ρ v x
  | agg (c : Array Value) (l : List AV) (hs : c.size = l.length) (h : ∀ (i : Nat) v x, c[i]? = some v → l[i]? = some x → VR w ρ v x) : VR w ρ (.agg c) (.agg l)
  | tup (c : Array Value) (l : List AV) (hs : c.size = l.length) (h : ∀ (i : Nat) v x, c[i]? = some v → l[i]? = some x → VR w ρ v x) : VR w ρ (.tuple c) (.tup l)
  | ip (b o : Nat) (cs : List AV) (cv : Nat → Value) (ho : ¬ no ρ b) (hlt : b < w.heap.size)
      (hcell : ∀ (j : Nat) x, cs[j]? = some x → w.cell? ⟨b, o + j, none⟩ = some (cv j))
      (hread : ∀ (j : Nat) x, cs[j]? = some x → PR w (no ρ) (cv j) x) : VR w ρ (.pointer (some ⟨b, o, none⟩)) (.ip cs)
  | ptr (r off b base : Nat) (h : ρ.l[r]? = some (some (b, base))) : VR w ρ (.pointer (some ⟨b, base + off, none⟩)) (.ptr r off)
  | vp (r k i off b base : Nat) (h : ρ.l[r]? = some (some (b, base))) : VR w ρ (.pointer (some ⟨b, base + i * k + off, none⟩)) (.vp r k i off)
  | osnil (r k : Nat) (h : ρ.l[r]? = some none) : VR w ρ (.slice none 0 0) (.os r k 0 0)
  | osz (r k off : Nat) (a : Option Addr) (b base : Nat) (h : ρ.l[r]? = some (some (b, base))) : VR w ρ (.slice a 0 0) (.os r k off 0)
  | os (r k off n c b base : Nat) (cs : Array Value) (e : TypeId) (fz : Nat × Nat) (h : ρ.l[r]? = some (some (b, base))) (hc : n ≤ c)
      (hb : w.heap[b]? = some (.cells cs e fz)) (hsz : base + (off + c) * k ≤ cs.size) : VR w ρ (.slice (some ⟨b, base + off * k, none⟩) n c) (.os r k off n)
  | fn (f : FuncId) (c : Array Value) (l : List AV) (hs : c.size = l.length) (h : ∀ (i : Nat) v x, c[i]? = some v → l[i]? = some x → VR w ρ v x) :
      VR w ρ (.func (.func f) #[] c) (.fn f l)

/-- The world has grown, and outside of the own blocks nothing that was there has changed. -/
structure Fr (own : Nat → Prop) (w w' : World) : Prop where
  le : w.heap.size ≤ w'.heap.size
  same : ∀ b, b < w.heap.size → ¬ own b → w'.heap[b]? = w.heap[b]?
  size : ∀ (b : Nat) c e f, w.heap[b]? = some (.cells c e f) → ∃ c', w'.heap[b]? = some (.cells c' e f) ∧ c'.size = c.size
  os : w'.os = w.os
  out : w'.output = w.output
  tape : w'.tape = w.tape

theorem Fr.refl {o : Nat → Prop} {w : World} : Fr o w w := ⟨Nat.le_refl _, fun _ _ _ => rfl, fun _ c _ _ h => ⟨c, h, rfl⟩, rfl, rfl, rfl⟩

theorem Fr.trans {o o' : Nat → Prop} {w w1 w2 : World} (h : Fr o w w1) (h' : Fr o' w1 w2) (hs : ∀ b, o' b → o b ∨ w.heap.size ≤ b) : Fr o w w2 where
  le := Nat.le_trans h.le h'.le
  same b hb ho := by
    rw [h'.same b (Nat.lt_of_lt_of_le hb h.le) (fun hh => by rcases hs b hh with h1 | h1; exact ho h1; omega), h.same b hb ho]
  size b c e f hc := by
    obtain ⟨c1, h1, s1⟩ := h.size b c e f hc
    obtain ⟨c2, h2, s2⟩ := h'.size b c1 e f h1
    exact ⟨c2, h2, by omega⟩
  os := h'.os.trans h.os
  out := h'.out.trans h.out
  tape := h'.tape.trans h.tape

theorem cell_same {w w' : World} {b : Nat} (h : w'.heap[b]? = w.heap[b]?) (o : Nat) : w'.cell? ⟨b, o, none⟩ = w.cell? ⟨b, o, none⟩ := by
  simp only [World.cell?, h]

theorem PR.mono {w w' : World} {o o' : Nat → Prop} {v : Value} {x : AV} (h : PR w o v x) (hs : ∀ b, b < w.heap.size → ¬ o b → w'.heap[b]? = w.heap[b]?)
    (hle : w.heap.size ≤ w'.heap.size) (ho : ∀ b, b < w.heap.size → o' b → o b) : PR w' o' v x := by
  induction h with
  | any v => exact .any v
  | val v => exact .val v
  | slnil a c => exact .slnil a c
  | sl b off k n c es cv hn h0 hc hk hown hlt hl hcell _ ih =>
    exact .sl b off k n c es cv hn h0 hc hk (fun hb => hown (ho b hlt hb)) (Nat.lt_of_lt_of_le hlt hle) hl
      (fun i j e x he hx => by rw [cell_same (hs b hlt hown)]; exact hcell i j e x he hx) (fun i j e x he hx => ih i j e x he hx)

mutual
/-- The abstract value with every own part that is not picked forgotten. -/
def AV.filt (p : Nat → Bool) : AV → AV
  | .any => .any
  | .val v => .val v
  | .agg l => .agg (filtL p l)
  | .tup l => .tup (filtL p l)
  | .sl es => .sl es
  | .ip cs => .ip cs
  | .ptr r off => if p r then .ptr r off else .any
  | .vp r k i off => if p r then .vp r k i off else .any
  | .os r k off n => if p r then .os r k off n else .any
  | .fn f l => .fn f (filtL p l)
def filtL (p : Nat → Bool) : List AV → List AV
  | [] => []
  | x :: l => x.filt p :: filtL p l
end

theorem filtL_map (p : Nat → Bool) (l : List AV) : filtL p l = l.map (AV.filt p) := by
  induction l with
  | nil => rfl
  | cons x l ih => simp [filtL, ih]

mutual
/-- Own parts renamed. -/
def AV.ren (σ : Nat → Nat) : AV → AV
  | .any => .any
  | .val v => .val v
  | .agg l => .agg (renL σ l)
  | .tup l => .tup (renL σ l)
  | .sl es => .sl es
  | .ip cs => .ip cs
  | .ptr r off => .ptr (σ r) off
  | .vp r k i off => .vp (σ r) k i off
  | .os r k off n => .os (σ r) k off n
  | .fn f l => .fn f (renL σ l)
def renL (σ : Nat → Nat) : List AV → List AV
  | [] => []
  | x :: l => x.ren σ :: renL σ l
end

theorem renL_map (σ : Nat → Nat) (l : List AV) : renL σ l = l.map (AV.ren σ) := by
  induction l with
  | nil => rfl
  | cons x l ih => simp [renL, ih]

/-- What is read stays so when the world grows, own parts that may have moved apart. -/
theorem VR.mono {w w' : World} {ρ ρ' : Env} {v : Value} {x : AV} (h : VR w ρ v x) (hf : Fr (own ρ) w w')
    (ho : ∀ b, b < w.heap.size → no ρ' b → no ρ b) (p : Nat → Bool) (hp : ∀ (r : Nat) l, p r = true → ρ.l[r]? = some l → ρ'.l[r]? = some l) : VR w' ρ' v (x.filt p) := by
  induction h with
  | pr h =>
    have h' := h.mono (fun b hb hn => hf.same b hb fun h => hn (.inl h)) hf.le ho
    cases h' <;> simp only [AV.filt] <;> first | exact .pr (.any _) | exact .pr (.val _) | exact .pr (.slnil _ _) | (rename_i h0 hc hk ho' hlt hl hcell hread; exact .pr (.sl _ _ _ _ _ _ _ ‹_› h0 hc hk ho' hlt hl hcell hread))
  | agg c l hs _ ih =>
    simp only [AV.filt, filtL_map]
    refine .agg c _ (by simpa using hs) fun i v x hv hx => ?_
    rw [List.getElem?_map] at hx
    cases hl : l[i]? with
    | none => simp [hl] at hx
    | some y => simp [hl] at hx; subst hx; exact ih i v y hv hl
  | tup c l hs _ ih =>
    simp only [AV.filt, filtL_map]
    refine .tup c _ (by simpa using hs) fun i v x hv hx => ?_
    rw [List.getElem?_map] at hx
    cases hl : l[i]? with
    | none => simp [hl] at hx
    | some y => simp [hl] at hx; subst hx; exact ih i v y hv hl
  | ip b o cs cv ho' hlt hcell hread =>
    simp only [AV.filt]
    exact .ip b o cs cv (fun hb => ho' (ho b hlt hb)) (Nat.lt_of_lt_of_le hlt hf.le) (fun j x hx => by rw [cell_same (hf.same b hlt fun h => ho' (.inl h))]; exact hcell j x hx)
      (fun j x hx => (hread j x hx).mono (fun b hb hn => hf.same b hb fun h => hn (.inl h)) hf.le ho)
  | ptr r off b base hr =>
    simp only [AV.filt]; split
    · rename_i hpr; exact .ptr r off b base (hp r _ hpr hr)
    · exact .pr (.any _)
  | vp r k i off b base hr =>
    simp only [AV.filt]; split
    · rename_i hpr; exact .vp r k i off b base (hp r _ hpr hr)
    · exact .pr (.any _)
  | osnil r k hr =>
    simp only [AV.filt]; split
    · rename_i hpr; exact .osnil r k (hp r _ hpr hr)
    · exact .pr (.any _)
  | osz r k off a b base hr =>
    simp only [AV.filt]; split
    · rename_i hpr; exact .osz r k off a b base (hp r _ hpr hr)
    · exact .pr (.any _)
  | os r k off n c b base cs e fz hr hc hb hsz =>
    simp only [AV.filt]; split
    · rename_i hpr
      obtain ⟨cs', h1, h2⟩ := hf.size b cs e fz hb
      exact .os r k off n c b base cs' e fz (hp r _ hpr hr) hc h1 (by omega)
    · exact .pr (.any _)
  | fn f c l hs _ ih =>
    simp only [AV.filt, filtL_map]
    refine .fn f c _ (by simpa using hs) fun i v x hv hx => ?_
    rw [List.getElem?_map] at hx
    cases hl : l[i]? with
    | none => simp [hl] at hx
    | some y => simp [hl] at hx; subst hx; exact ih i v y hv hl

mutual
theorem AV.filt_true : (x : AV) → x.filt (fun _ => true) = x
  | .any | .val _ | .sl _ | .ip _ | .ptr .. | .vp .. | .os .. => by simp [AV.filt]
  | .agg l => by simp [AV.filt, filtL_true l]
  | .tup l => by simp [AV.filt, filtL_true l]
  | .fn f l => by simp [AV.filt, filtL_true l]
theorem filtL_true : (l : List AV) → filtL (fun _ => true) l = l
  | [] => rfl
  | x :: l => by simp [filtL, AV.filt_true x, filtL_true l]
end

/-- The same, nothing forgotten: every own part lies where it lay. -/
theorem VR.keep {w w' : World} {ρ ρ' : Env} {v : Value} {x : AV} (h : VR w ρ v x) (hf : Fr (own ρ) w w')
    (ho : ∀ b, b < w.heap.size → no ρ' b → no ρ b) (hp : ∀ (r : Nat) l, ρ.l[r]? = some l → ρ'.l[r]? = some l) : VR w' ρ' v x := by
  induction h with
  | pr h => exact .pr (h.mono (fun b hb hn => hf.same b hb fun h => hn (.inl h)) hf.le ho)
  | agg c l hs _ ih => exact .agg c l hs ih
  | tup c l hs _ ih => exact .tup c l hs ih
  | ip b o cs cv ho' hlt hcell hread =>
    exact .ip b o cs cv (fun hb => ho' (ho b hlt hb)) (Nat.lt_of_lt_of_le hlt hf.le) (fun j x hx => by rw [cell_same (hf.same b hlt fun h => ho' (.inl h))]; exact hcell j x hx)
      (fun j x hx => (hread j x hx).mono (fun b hb hn => hf.same b hb fun h => hn (.inl h)) hf.le ho)
  | ptr r off b base hr => exact .ptr r off b base (hp _ _ hr)
  | vp r k i off b base hr => exact .vp r k i off b base (hp _ _ hr)
  | osnil r k hr => exact .osnil r k (hp _ _ hr)
  | osz r k off a b base hr => exact .osz r k off a b base (hp _ _ hr)
  | os r k off n c b base cs e fz hr hc hb hsz =>
    obtain ⟨cs', h1, h2⟩ := hf.size b cs e fz hb
    exact .os r k off n c b base cs' e fz (hp _ _ hr) hc h1 (by omega)
  | fn f c l hs _ ih => exact .fn f c l hs ih


/-- Read under other names. -/
theorem VR.ren {w : World} {ρ ρ' : Env} {v : Value} {x : AV} (h : VR w ρ v x) (σ : Nat → Nat) (hσ : ∀ (r : Nat) l, ρ.l[r]? = some l → ρ'.l[σ r]? = some l) (ho : ∀ b, b < w.heap.size → no ρ' b → no ρ b) : VR w ρ' v (x.ren σ) := by
  induction h with
  | pr h =>
    have h' := h.mono (w' := w) (o' := no ρ') (fun _ _ _ => rfl) (Nat.le_refl _) ho
    cases h' <;> simp only [AV.ren] <;> first | exact .pr (.any _) | exact .pr (.val _) | exact .pr (.slnil _ _) | (rename_i h0 hc hk ho' hlt hl hcell hread; exact .pr (.sl _ _ _ _ _ _ _ ‹_› h0 hc hk ho' hlt hl hcell hread))
  | agg c l hs _ ih =>
    simp only [AV.ren, renL_map]
    refine .agg c _ (by simpa using hs) fun i v x hv hx => ?_
    rw [List.getElem?_map] at hx
    cases hl : l[i]? with
    | none => simp [hl] at hx
    | some y => simp [hl] at hx; subst hx; exact ih i v y hv hl
  | tup c l hs _ ih =>
    simp only [AV.ren, renL_map]
    refine .tup c _ (by simpa using hs) fun i v x hv hx => ?_
    rw [List.getElem?_map] at hx
    cases hl : l[i]? with
    | none => simp [hl] at hx
    | some y => simp [hl] at hx; subst hx; exact ih i v y hv hl
  | ip b o cs cv ho' hlt hcell hread =>
    simp only [AV.ren]
    exact .ip b o cs cv (fun hb => ho' (ho b hlt hb)) hlt hcell (fun j x hx => (hread j x hx).mono (fun _ _ _ => rfl) (Nat.le_refl _) ho)
  | ptr r off b base hr => simp only [AV.ren]; exact .ptr _ off b base (hσ _ _ hr)
  | vp r k i off b base hr => simp only [AV.ren]; exact .vp _ k i off b base (hσ _ _ hr)
  | osnil r k hr => simp only [AV.ren]; exact .osnil _ k (hσ _ _ hr)
  | osz r k off a b base hr => simp only [AV.ren]; exact .osz _ k off a b base (hσ _ _ hr)
  | os r k off n c b base cs e fz hr hc hb hsz => simp only [AV.ren]; exact .os _ k off n c b base cs e fz (hσ _ _ hr) hc hb hsz
  | fn f c l hs _ ih =>
    simp only [AV.ren, renL_map]
    refine .fn f c _ (by simpa using hs) fun i v x hv hx => ?_
    rw [List.getElem?_map] at hx
    cases hl : l[i]? with
    | none => simp [hl] at hx
    | some y => simp [hl] at hx; subst hx; exact ih i v y hv hl

theorem renL_get {σ : Nat → Nat} {l : List AV} {i : Nat} {x : AV} (h : l[i]? = some x) : (renL σ l)[i]? = some (x.ren σ) := by
  rw [renL_map, List.getElem?_map, h]; rfl

mutual
/-- The names taken back. -/
theorem VR.unren {w : World} {ρ ρ' : Env} (σ : Nat → Nat) (hσ : ∀ (r : Nat) l, ρ.l[σ r]? = some l → ρ'.l[r]? = some l) (ho : ∀ b, b < w.heap.size → no ρ' b → no ρ b) : ∀ (x : AV) (v : Value), VR w ρ v (x.ren σ) → VR w ρ' v x
  | .any, v, _ => .pr (.any v)
  | .val u, v, h => by
    simp only [AV.ren] at h
    cases h with
    | pr hp => cases hp; exact .pr (.val _)
  | .sl es, v, h => by
    simp only [AV.ren] at h
    cases h with
    | pr hp => exact .pr (hp.mono (fun _ _ _ => rfl) (Nat.le_refl _) ho)
  | .ip cs, v, h => by
    simp only [AV.ren] at h
    cases h with
    | pr hp => cases hp
    | ip b o cs cv ho' hlt hcell hread => exact .ip b o cs cv (fun hb => ho' (ho b hlt hb)) hlt hcell (fun j x hx => (hread j x hx).mono (fun _ _ _ => rfl) (Nat.le_refl _) ho)
  | .ptr r off, v, h => by
    simp only [AV.ren] at h
    cases h with
    | pr hp => cases hp
    | ptr r off b base hr => exact .ptr _ off b base (hσ _ _ hr)
  | .vp r k i off, v, h => by
    simp only [AV.ren] at h
    cases h with
    | pr hp => cases hp
    | vp r k i off b base hr => exact .vp _ k i off b base (hσ _ _ hr)
  | .os r k off n, v, h => by
    simp only [AV.ren] at h
    cases h with
    | pr hp => cases hp
    | osnil r k hr => exact .osnil _ k (hσ _ _ hr)
    | osz r k off a b base hr => exact .osz _ k off a b base (hσ _ _ hr)
    | os r k off n c b base cs e fz hr hc hb hsz => exact .os _ k off n c b base cs e fz (hσ _ _ hr) hc hb hsz
  | .agg l, v, h => by
    simp only [AV.ren] at h
    cases h with
    | pr hp => cases hp
    | agg c _ hs hc => exact .agg c l (by rw [hs, renL_map]; simp) fun i v x hv hx => VR.unrenL σ hσ ho l i x v hx (hc i v _ hv (renL_get hx))
  | .tup l, v, h => by
    simp only [AV.ren] at h
    cases h with
    | pr hp => cases hp
    | tup c _ hs hc => exact .tup c l (by rw [hs, renL_map]; simp) fun i v x hv hx => VR.unrenL σ hσ ho l i x v hx (hc i v _ hv (renL_get hx))
  | .fn f l, v, h => by
    simp only [AV.ren] at h
    cases h with
    | pr hp => cases hp
    | fn f c _ hs hc => exact .fn f c l (by rw [hs, renL_map]; simp) fun i v x hv hx => VR.unrenL σ hσ ho l i x v hx (hc i v _ hv (renL_get hx))
theorem VR.unrenL {w : World} {ρ ρ' : Env} (σ : Nat → Nat) (hσ : ∀ (r : Nat) l, ρ.l[σ r]? = some l → ρ'.l[r]? = some l) (ho : ∀ b, b < w.heap.size → no ρ' b → no ρ b) : ∀ (l : List AV) (i : Nat) (x : AV) (v : Value), l[i]? = some x → VR w ρ v (x.ren σ) → VR w ρ' v x
  | [], i, x, v, h, _ => by simp at h
  | y :: l, 0, x, v, h, hv => by
    simp at h
    subst h
    exact VR.unren σ hσ ho _ v hv
  | y :: l, i + 1, x, v, h, hv => VR.unrenL σ hσ ho l i x v (by simpa using h) hv
end

/-! ### Own blocks, states -/

/-- A value reads as an abstract one, and all its memory lies in blocks of a set, no two parts of it in one. -/
inductive TR (w : World) : (Nat → Prop) → Value → AV → Prop
  | val (S : Nat → Prop) (v : Value) : TR w S v (.val v)
  | nil (S : Nat → Prop) (a : Option Addr) (c : Nat) : TR w S (.slice a 0 c) (.sl [])
  | sl (S : Nat → Prop) (b o k n c : Nat) (es : List (List AV)) (cv : Nat → Nat → Value) (cs : Array Value) (e : TypeId) (F : Nat → Nat → Nat → Prop)
      (hn : es.length = n) (h0 : 0 < n) (hc : n ≤ c) (hk : 0 < k) (hb : S b) (hl : ∀ (i : Nat) e, es[i]? = some e → e.length = k)
      (hh : w.heap[b]? = some (.cells cs e (0, 0))) (hsz : o + c * k ≤ cs.size)
      (hcell : ∀ (i j : Nat) e x, es[i]? = some e → e[j]? = some x → cs[o + i * k + j]? = some (cv i j))
      (hF : ∀ i j y, F i j y → S y ∧ y ≠ b) (hdis : ∀ i j i' j' y, F i j y → F i' j' y → i = i' ∧ j = j')
      (hread : ∀ (i j : Nat) e x, es[i]? = some e → e[j]? = some x → TR w (F i j) (cv i j) x) : TR w S (.slice (some ⟨b, o, none⟩) n c) (.sl es)

theorem TR.keep {w w' : World} {S : Nat → Prop} {v : Value} {x : AV} (h : TR w S v x) (hs : ∀ b, S b → b < w.heap.size → w'.heap[b]? = w.heap[b]?) : TR w' S v x := by
  induction h with
  | val S v => exact .val S v
  | nil S a c => exact .nil S a c
  | sl S b o k n c es cv cs e F hn h0 hc hk hb hl hh hsz hcell hF hdis _ ih =>
    exact .sl S b o k n c es cv cs e F hn h0 hc hk hb hl (by rw [hs b hb (Array.getElem?_eq_some_iff.1 hh).1]; exact hh) hsz hcell hF hdis
      (fun i j e x h1 h2 => ih i j e x h1 h2 fun b hb => hs b (hF i j b hb).1)

theorem TR.sub {w : World} {S S' : Nat → Prop} {v : Value} {x : AV} (h : TR w S v x) (hs : ∀ b, S b → S' b) : TR w S' v x := by
  cases h with
  | val S v => exact .val S' v
  | nil S a c => exact .nil S' a c
  | sl S b o k n c es cv cs e F hn h0 hc hk hb hl hh hsz hcell hF hdis hread =>
    exact .sl S' b o k n c es cv cs e F hn h0 hc hk (hs b hb) hl hh hsz hcell (fun i j x h => ⟨hs x (hF i j x h).1, (hF i j x h).2⟩) hdis hread

/-- What lies in blocks of its own can be read as something that is immutable, where those blocks are not own. -/
theorem TR.pr {w : World} {S : Nat → Prop} {v : Value} {x : AV} (h : TR w S v x) {o : Nat → Prop} (ho : ∀ b, S b → ¬ o b) : PR w o v x := by
  induction h with
  | val S v => exact .val v
  | nil S a c => exact .slnil a c
  | sl S b off k n c es cv cs e F hn h0 hc hk hb hl hh hsz hcell hF hdis hread ih =>
    refine .sl b off k n c es cv hn h0 hc hk (ho b hb) (Array.getElem?_eq_some_iff.1 hh).1 hl (fun i j e' x he hx => ?_) fun i j e' x he hx => ih _ _ _ _ he hx fun b hb => ho b (hF _ _ b hb).1
    simp only [World.cell?, hh]
    rw [hcell i j e' x he hx]
    rfl

/-- Values with their memory, each in blocks of its own. -/
def Forest (w : World) (S : Nat → Prop) (items : List (Value × AV)) : Prop :=
  ∃ F : Nat → Nat → Prop, (∀ m x, F m x → S x) ∧ (∀ m m' x, F m x → F m' x → m = m') ∧ ∀ (m : Nat) v x, items[m]? = some (v, x) → TR w (F m) v x

theorem Forest.keep {w w' : World} {S : Nat → Prop} {items : List (Value × AV)} (h : Forest w S items) (hs : ∀ b, S b → b < w.heap.size → w'.heap[b]? = w.heap[b]?) : Forest w' S items := by
  obtain ⟨F, h1, h2, h3⟩ := h
  exact ⟨F, h1, h2, fun m v x hm => (h3 m v x hm).keep fun b hb => hs b (h1 m b hb)⟩

def EntR (w : World) (ρ : Env) (loc : Option (Nat × Nat)) : OB → Prop
  | .dead => loc = none
  | .cells cs => ∃ b c e, loc = some (b, 0) ∧ w.heap[b]? = some (.cells c e (0, 0)) ∧ c.size = cs.length ∧
      ∀ (i : Nat) v x, c[i]? = some v → cs[i]? = some x → VR w ρ v x
  | .vec k es => 0 < k ∧ (∀ (i : Nat) e, es[i]? = some e → e.length = k) ∧ ((loc = none ∧ es = []) ∨
      ∃ b base c e, loc = some (b, base) ∧ w.heap[b]? = some (.cells c e (0, 0)) ∧ base + es.length * k ≤ c.size ∧
        ∀ (i j : Nat) ei x, es[i]? = some ei → ei[j]? = some x → ∃ v, c[base + i * k + j]? = some v ∧ PR w (no ρ) v x)
  | .forest S items => loc = none ∧ Forest w S items
  | .slab cs => (loc = none ∧ cs = []) ∨ ∃ b base c e, loc = some (b, base) ∧ w.heap[b]? = some (.cells c e (0, 0)) ∧ base + cs.length ≤ c.size ∧
      ∀ (i : Nat) v x, c[base + i]? = some v → cs[i]? = some x → VR w ρ v x

/-- The blocks of what lies in blocks of its own. -/
structure HT (w : World) (ρ : Env) (L : List OB) : Prop where
  lt : ∀ b, ρ.T b → b < w.heap.size
  dl : ∀ (b r base : Nat), ρ.T b → ρ.l[r]? = some (some (b, base)) → False
  sub : ∀ (r : Nat) S items b, L[r]? = some (.forest S items) → S b → ρ.T b
  dis : ∀ (r r' : Nat) S S' items items' b, L[r]? = some (.forest S items) → L[r']? = some (.forest S' items') → S b → S' b → r = r'

structure HR (w : World) (ρ : Env) (L : List OB) : Prop where
  len : ρ.l.length = L.length
  xlt : ∀ b, ρ.X b → b < w.heap.size
  disj : ∀ b, own ρ b → ¬ ρ.X b
  inj : ∀ (r r' b base base' : Nat), ρ.l[r]? = some (some (b, base)) → ρ.l[r']? = some (some (b, base')) → r = r'
  ent : ∀ (r : Nat) o l, L[r]? = some o → ρ.l[r]? = some l → EntR w ρ l o
  t : HT w ρ L

structure AS where
  tm : List AV
  L : List OB
  deriving Inhabited

def AV.ofV : Value → AV
  | .agg c => .agg (c.toList.map .val)
  | v => .val v

def AS.ev (s : AS) : Operand → AV
  | .tmp t => s.tm.getD t .any
  | .const v => AV.ofV v
  | .global _ => .any
  | .func f => .fn f []

def AS.put (s : AS) (dst : Option Tmp) (x : AV) : AS :=
  match dst with
  | some d => { s with tm := s.tm.set d x }
  | none => s

structure Rel (ρ : Env) (s : AS) (a : Act) (w : World) : Prop where
  dfr : a.defers = []
  size : a.tmps.size = s.tm.length
  tm : ∀ (i : Nat) v x, a.tmps[i]? = some v → s.tm[i]? = some x → VR w ρ v x
  hr : HR w ρ s.L

structure St (fx : List Nat) (ρ : Env) (w : World) (ρ' : Env) (w' : World) : Prop where
  fr : Fr (own ρ) w w'
  sub : ∀ b, b < w.heap.size → own ρ' b → own ρ b
  fix : ∀ r ∈ fx, ∀ x, ρ.l[r]? = some x → ρ'.l[r]? = some x
  x : ρ'.X = ρ.X

theorem St.refl {fx : List Nat} {ρ : Env} {w : World} : St fx ρ w ρ w := ⟨.refl, fun _ _ h => h, fun _ _ _ h => h, rfl⟩

theorem St.trans {fx : List Nat} {ρ ρ1 ρ2 : Env} {w w1 w2 : World} (h : St fx ρ w ρ1 w1) (h' : St fx ρ1 w1 ρ2 w2) : St fx ρ w ρ2 w2 where
  fr := h.fr.trans h'.fr (fun b hb => by
    rcases Nat.lt_or_ge b w.heap.size with hlt | hge
    · exact .inl (h.sub b hlt hb)
    · exact .inr hge)
  sub b hb ho := h.sub b hb (h'.sub b (Nat.lt_of_lt_of_le hb h.fr.le) ho)
  fix r hr x hx := h'.fix r hr x (h.fix r hr x hx)
  x := h'.x.trans h.x

theorem St.no {fx : List Nat} {ρ ρ' : Env} {w w' : World} (h : St fx ρ w ρ' w') : ∀ b, b < w.heap.size → no ρ' b → no ρ b := fun b hb hn => by
  rcases hn with hn | hn
  · exact .inl (h.sub b hb hn)
  · exact .inr (h.x ▸ hn)

theorem own_lt {w : World} {ρ : Env} {L : List OB} (h : HR w ρ L) {b : Nat} (ho : own ρ b) : b < w.heap.size := by
  rcases ho with ⟨r, base, hr⟩ | ho
  case inr => exact h.t.lt b ho
  have hrl : r < ρ.l.length := by
    rcases Nat.lt_or_ge r ρ.l.length with h' | h'
    · exact h'
    · simp [List.getElem?_eq_none h'] at hr
  have hl : L[r]? = some (L[r]'(h.len ▸ hrl)) := List.getElem?_eq_getElem _
  have he := h.ent r _ _ hl hr
  cases hL : L[r]'(h.len ▸ hrl) with
  | dead => rw [hL] at he; cases he
  | cells cs =>
    rw [hL] at he
    obtain ⟨b', c, e, h1, h2, _⟩ := he
    cases h1
    exact (Array.getElem?_eq_some_iff.1 h2).1
  | slab cs =>
    rw [hL] at he
    rcases he with ⟨hz1, hz2⟩ | ⟨b', base0, c, e, h1, h2, _⟩
    · cases hz1
    cases h1
    exact (Array.getElem?_eq_some_iff.1 h2).1
  | vec k es =>
    rw [hL] at he
    obtain ⟨_, _, he⟩ := he
    rcases he with ⟨h1, _⟩ | ⟨b', base', c, e, h1, h2, _⟩
    · cases h1
    · cases h1
      exact (Array.getElem?_eq_some_iff.1 h2).1
  | forest S items => rw [hL] at he; cases he.1

/-- A world that has only grown. -/
abbrev Grow (w w' : World) : Prop := Fr (fun _ => False) w w'

theorem Grow.fr {w w' : World} (h : Grow w w') (o : Nat → Prop) : Fr o w w' := ⟨h.le, fun b hb _ => h.same b hb (fun h => h), h.size, h.os, h.out, h.tape⟩

theorem EntR.grow {w w' : World} {ρ : Env} {l : Option (Nat × Nat)} {o : OB} (h : EntR w ρ l o) (hg : Grow w w')
    (hv : ∀ v x, VR w ρ v x → VR w' ρ v x) : EntR w' ρ l o := by
  have hp : ∀ v x, PR w (no ρ) v x → PR w' (no ρ) v x := fun v x h => h.mono (fun b hb _ => hg.same b hb (fun h => h)) hg.le (fun _ _ h => h)
  cases o with
  | dead => exact h
  | cells cs =>
    obtain ⟨b, c, e, h1, h2, h3, h4⟩ := h
    exact ⟨b, c, e, h1, by rw [hg.same b (Array.getElem?_eq_some_iff.1 h2).1 (fun h => h)]; exact h2, h3, fun i v x h5 h6 => hv _ _ (h4 i v x h5 h6)⟩
  | slab cs =>
    rcases h with ⟨hz1, hz2⟩ | ⟨b, base0, c, e, h1, h2, h3, h4⟩
    · exact .inl ⟨hz1, by simpa using hz2⟩
    exact .inr ⟨b, base0, c, e, h1, by rw [hg.same b (Array.getElem?_eq_some_iff.1 h2).1 (fun h => h)]; exact h2, h3, fun i v x h5 h6 => hv _ _ (h4 i v x h5 h6)⟩
  | vec k es =>
    obtain ⟨h0, hl, h⟩ := h
    refine ⟨h0, hl, ?_⟩
    rcases h with h | ⟨b, base, c, e, h1, h2, h3, h4⟩
    · exact .inl h
    · exact .inr ⟨b, base, c, e, h1, by rw [hg.same b (Array.getElem?_eq_some_iff.1 h2).1 (fun h => h)]; exact h2, h3,
        fun i j ei x h5 h6 => let ⟨v, h7, h8⟩ := h4 i j ei x h5 h6; ⟨v, h7, hp _ _ h8⟩⟩
  | forest S items => exact ⟨h.1, h.2.keep fun b _ hb => hg.same b hb (fun h => h)⟩

theorem VR.grow {w w' : World} {ρ : Env} {v : Value} {x : AV} (h : VR w ρ v x) (hg : Grow w w') : VR w' ρ v x :=
  h.keep (hg.fr _) (fun _ _ h => h) (fun _ _ h => h)

theorem HR.grow {w w' : World} {ρ : Env} {L : List OB} (h : HR w ρ L) (hg : Grow w w') : HR w' ρ L :=
  ⟨h.len, fun b hb => Nat.lt_of_lt_of_le (h.xlt b hb) hg.le, h.disj, h.inj, fun r o l h1 h2 => (h.ent r o l h1 h2).grow hg fun _ _ hv => hv.grow hg,
    ⟨fun b hb => Nat.lt_of_lt_of_le (h.t.lt b hb) hg.le, h.t.dl, h.t.sub, h.t.dis⟩⟩

theorem Rel.grow {ρ : Env} {s : AS} {a : Act} {w w' : World} (h : Rel ρ s a w) (hg : Grow w w') : Rel ρ s a w' :=
  ⟨h.dfr, h.size, fun i v x h1 h2 => (h.tm i v x h1 h2).grow hg, h.hr.grow hg⟩

theorem St.grow {fx : List Nat} {ρ : Env} {w w' : World} (hg : Grow w w') : St fx ρ w ρ w' := ⟨hg.fr _, fun _ _ h => h, fun _ _ _ h => h, rfl⟩

theorem Grow.drew {w : World} : Grow w w.drew := ⟨Nat.le_refl _, fun _ _ _ => rfl, fun _ c _ _ h => ⟨c, h, rfl⟩, rfl, rfl, rfl⟩

theorem VR.ofV {w : World} {ρ : Env} (v : Value) : VR w ρ v (AV.ofV v) := by
  cases v <;> simp only [AV.ofV] <;> first
    | exact .pr (.val _)
    | (rename_i c
       refine .agg c _ (by simp) fun i v x hv hx => ?_
       rw [List.getElem?_map] at hx
       have : c.toList[i]? = some v := by simpa using hv
       rw [this] at hx
       simp at hx
       subst hx
       exact .pr (.val _))

theorem Rel.ev {ρ : Env} {s : AS} {a : Act} {w : World} (h : Rel ρ s a w) (x : Operand) : VR w ρ (a.eval x) (s.ev x) := by
  cases x with
  | tmp t =>
    simp only [Act.eval, AS.ev]
    rcases Nat.lt_or_ge t s.tm.length with ht | ht
    · have h1 : s.tm[t]? = some s.tm[t] := List.getElem?_eq_getElem ht
      have h2 : a.tmps[t]? = some (a.tmps[t]'(by rw [h.size]; exact ht)) := Array.getElem?_eq_getElem _
      have := h.tm t _ _ h2 h1
      rw [List.getD_eq_getElem?_getD, h1, Array.getD_eq_getD_getElem?, h2]
      exact this
    · rw [List.getD_eq_getElem?_getD, List.getElem?_eq_none ht]
      exact .pr (.any _)
  | const v => exact .ofV v
  | global g => exact .pr (.any _)
  | func f => exact .fn f #[] [] rfl (by simp)

theorem Rel.put {ρ : Env} {s : AS} {a : Act} {w : World} (h : Rel ρ s a w) (dst : Option Tmp) {v : Value} {x : AV} (hv : VR w ρ v x) :
    Rel ρ (s.put dst x) (a.put dst v) w := by
  cases dst with
  | none => exact h
  | some d =>
    refine ⟨h.dfr, by simp [AS.put, Act.put, h.size], fun i u y h1 h2 => ?_, h.hr⟩
    simp only [AS.put, Act.put] at h1 h2
    by_cases hi : d = i
    · subst hi
      rw [List.getElem?_set] at h2
      rw [Array.getElem?_setIfInBounds] at h1
      split at h2 <;> split at h1 <;> simp_all
    · rw [List.getElem?_set_ne hi] at h2
      rw [Array.getElem?_setIfInBounds_ne hi] at h1
      exact h.tm i u y h1 h2

/-- What one operation, once carried out, comes to. -/
def Out (P : Program) (Φ : Value → World → Prop) : Result Next → Prop
  | .ok (.value v) w' => Φ v w'
  | .ok .skip w' => Φ undef w'
  | .ok (.enter f args) w' => Calls P f args w' (fun e w'' => ∃ v, e = .returned v ∧ Φ v w'')
  | _ => False

theorem Out.mono {P : Program} {Φ Ψ : Value → World → Prop} {r : Result Next} (h : Out P Φ r) (hh : ∀ v w, Φ v w → Ψ v w) : Out P Ψ r := by
  cases r with
  | ok n w' =>
    cases n <;> simp only [Out] at h ⊢ <;> first
      | exact hh _ _ h
      | exact h.mono fun e w'' ⟨v, he, hv⟩ => ⟨v, he, hh _ _ hv⟩
  | halt x w' => simp only [Out] at h

theorem wp_of_out {P : Program} {o : Oper} {a : Act} {w : World} {next : Act → World → Prop} {Q : Exit → Act → World → Prop}
    (h : Out P (fun v w' => next (a.put o.dst v) w') ((execOp a.eval o).run P w)) : o.wp P a w next Q := by
  unfold Oper.wp
  generalize (execOp a.eval o).run P w = r at h
  cases r with
  | ok n w' =>
    cases n <;> simp only [Out] at h <;> simp only [Oper.upon]
    case value v => exact h
    case skip => exact h
    case enter f args => exact h.mono fun e w'' ⟨v, he, hv⟩ => by subst he; exact hv
  | halt x w' => simp only [Out] at h

/-- A quiet operation: whatever the world, it yields a value that reads as 'r', and the world has only grown. -/
def QOK (P : Program) (o : Oper) (s : AS) (r : AV) : Prop :=
  ∀ (ρ : Env) (a : Act) (w : World), HR w ρ s.L → (∀ x ∈ o.op.operands, VR w ρ (a.eval x) (s.ev x)) → Out P (fun v w' => VR w' ρ v r ∧ Grow w w') ((execOp a.eval o).run P w)

/-- An operation, with what comes behind it. -/
def AOK (P : Program) (fx : List Nat) (o : Oper) (s : AS) (K : AS → Prop) : Prop :=
  ∀ (ρ : Env) (a : Act) (w : World), Rel ρ s a w → Out P (fun v w' => ∃ s' ρ', K s' ∧ Rel ρ' s' (a.put o.dst v) w' ∧ St fx ρ w ρ' w') ((execOp a.eval o).run P w)

theorem AOK.of_quiet {P : Program} {fx : List Nat} {o : Oper} {s : AS} {K : AS → Prop} {r : AV} (h : QOK P o s r) (hK : K (s.put o.dst r)) : AOK P fx o s K :=
  fun ρ a w hr => (h ρ a w hr.hr (fun x _ => hr.ev x)).mono fun _ _ ⟨hv, hg⟩ => ⟨_, ρ, hK, (hr.grow hg).put o.dst hv, .grow hg⟩

theorem AOK.mono {P : Program} {fx : List Nat} {o : Oper} {s : AS} {K K' : AS → Prop} (h : AOK P fx o s K) (hh : ∀ s, K s → K' s) : AOK P fx o s K' :=
  fun ρ a w hr => (h ρ a w hr).mono fun _ _ ⟨s', ρ', hk, h1, h2⟩ => ⟨s', ρ', hh _ hk, h1, h2⟩

end Go.Pc

/- The abstract logic, second part: the types' table, and the operations that leave the world alone. -/
namespace Go.Pc
open Go

inductive SK where
  | int
  | bool

inductive Kd where
  | none
  | flat
  | intk (k : IntKind)
  | bool
  | str
  | struct (fs : List (Nat × TypeId))
  | array (n : Nat) (e : TypeId)
  | slice (e : TypeId)

structure Ty where
  kd : Kd := .none
  size : Nat := 0
  bytes : Nat := 0
  zero : List Value := []
  eqk : List SK := []

def Kd.ok : Kd → Bool
  | .none => false
  | _ => true
def Kd.isAgg : Kd → Bool
  | .struct _ | .array .. => true
  | _ => false

def KdOk (d : TypeDesc) : Kd → Prop
  | .none => False
  | .flat => match d with | .struct _ | .array .. => False | _ => True
  | .intk k => d = .int k
  | .bool => d = .bool
  | .str => d = .string
  | .struct fs => ∃ f : Array Field, d = .struct f ∧ f.toList.map (fun f => (f.offset, f.type)) = fs
  | .array n e => d = .array n e
  | .slice e => d = .slice e

/-- Values of scalar kinds, in a row. -/
def KM : List SK → List Value → Prop
  | [], [] => True
  | .int :: ks, .int .i64 _ :: vs => KM ks vs
  | .bool :: ks, .bool _ :: vs => KM ks vs
  | _, _ => False

def eqV : List Value → List Value → Bool
  | .int _ a :: xs, .int _ b :: ys => decide (a = b) && eqV xs ys
  | .bool a :: xs, .bool b :: ys => decide (a = b) && eqV xs ys
  | [], [] => true
  | _, _ => false

def TyOk (P : Program) (t : TypeId) (y : Ty) : Prop :=
  y.kd.ok = true → ∃ i d z, P.info? t = some i ∧ P.underlying t = some d ∧ KdOk d y.kd ∧ i.size = y.size ∧ i.bytes = y.bytes ∧ i.zero = some z ∧ z.cells.toList = y.zero ∧ y.zero.length = y.size

def EqOk (P : Program) (t : TypeId) (y : Ty) : Prop :=
  y.eqk ≠ [] → P.eqGuardType P.depth t = false ∧ ∀ xs ys : List Value, KM y.eqk xs → KM y.eqk ys → ∀ w, (Op.equalIn 10000 t (.agg xs.toArray) (.agg ys.toArray)).run P w = .ok (eqV xs ys) w

structure TTOk (P : Program) (T : TypeId → Ty) : Prop where
  ty : ∀ t, TyOk P t (T t)
  eq : ∀ t, EqOk P t (T t)

section
variable {P : Program} {T : TypeId → Ty}

theorem run_size (hT : TTOk P T) {t : TypeId} (h : (T t).kd.ok = true) (w : World) : (sizeOf t).run P w = .ok (T t).size w := by
  obtain ⟨i, d, z, h1, h2, h3, h4, _⟩ := hT.ty t h
  simp [sizeOf, typeInfo, h1, h4]

theorem run_agg (hT : TTOk P T) {t : TypeId} (h : (T t).kd.ok = true) (w : World) : (isAgg t).run P w = .ok (T t).kd.isAgg w := by
  obtain ⟨i, d, z, h1, h2, h3, h4, _⟩ := hT.ty t h
  simp only [isAgg, Sem.run_bind, run_underlying h2, Result.andThen_ok]
  cases hk : (T t).kd <;> rw [hk] at h3 <;> simp only [KdOk] at h3
  case flat => cases d <;> simp_all [Kd.isAgg]
  case struct => obtain ⟨f, rfl, _⟩ := h3; rfl
  all_goals (subst h3; rfl)

/-- What is read at a place among cells. -/
def rdC (y : Ty) (cs : List AV) (off : Nat) : Option AV :=
  if y.kd.isAgg then (if off + y.size ≤ cs.length then some (.agg ((cs.drop off).take y.size)) else none) else cs[off]?

theorem add_off (b o n : Nat) : (⟨b, o, none⟩ : Addr).add n = ⟨b, o + n, none⟩ := by
  unfold Addr.add
  split <;> simp_all

theorem run_loadVar (hT : TTOk P T) {t : TypeId} (h : (T t).kd.ok = true) {w : World} {ρ : Env} {cs : List AV} {b o off : Nat} {r : AV}
    (hc : ∀ (j : Nat) x, cs[j]? = some x → ∃ v, w.cell? ⟨b, o + j, none⟩ = some v ∧ VR w ρ v x) (hr : rdC (T t) cs off = some r) :
    ∃ u, (loadVar t ⟨b, o + off, none⟩).run P w = .ok u w ∧ VR w ρ u r := by
  unfold rdC at hr
  simp only [loadVar, Sem.run_bind, run_agg hT h, Result.andThen_ok, Sem.run_ite]
  split at hr
  · rename_i ha
    split at hr
    · rename_i hle
      cases hr
      have hx : ∀ j, j < (T t).size → ∃ v, w.cell? ⟨b, o + (off + j), none⟩ = some v ∧ VR w ρ v (cs[off + j]?.getD .any) := fun j hj => by
        obtain ⟨v, h1, h2⟩ := hc (off + j) _ (List.getElem?_eq_getElem (by omega))
        exact ⟨v, h1, by rw [List.getElem?_eq_getElem (by omega)]; exact h2⟩
      let f : Nat → Value := fun j => (w.cell? ⟨b, o + (off + j), none⟩).getD undef
      have hf : ∀ j, j < (T t).size → w.cell? ((⟨b, o + off, none⟩ : Addr).add j) = some (f j) := fun j hj => by
        obtain ⟨v, h1, _⟩ := hx j hj
        rw [add_off, show o + off + j = o + (off + j) by omega]
        simp [f, h1]
      refine ⟨.agg ((List.range (T t).size).map f).toArray, ?_, ?_⟩
      · rw [if_pos ha]
        simp only [run_size hT h, Result.andThen_ok, run_loadCells w _ _ f hf, Sem.run_pure]
      · refine .agg _ _ (by simp; omega) fun i v x hv hx' => ?_
        have hi : i < (T t).size := by
          rcases Nat.lt_or_ge i (T t).size with h' | h'
          · exact h'
          · simp [h'] at hv
        obtain ⟨v', h1, h2⟩ := hx i hi
        have : v = v' := by
          simp [hi, f, h1] at hv
          exact hv.symm
        subst this
        rw [List.getElem?_take_of_lt hi, List.getElem?_drop] at hx'
        rw [hx'] at h2
        exact h2
    · cases hr
  · rename_i ha
    obtain ⟨v, h1, h2⟩ := hc off r hr
    refine ⟨v, ?_, h2⟩
    rw [if_neg ha]
    simp [h1]

/-! ### Where a pointer leads -/

/-- The cells behind an abstract pointer, and where among them. -/
def cellsAt (s : AS) (x : AV) (K : List AV → Nat → Prop) : Prop :=
  match x with
  | .ip cs => K cs 0
  | .ptr r off => ∃ cs, s.L[r]? = some (.cells cs) ∧ K cs off
  | .vp r k i off => (∃ es, s.L[r]? = some (.vec k es) ∧ ∃ e, es[i]? = some e ∧ K e off) ∨ (k = 1 ∧ off = 0 ∧ ∃ cs, s.L[r]? = some (.slab cs) ∧ ∃ c, cs[i]? = some c ∧ K [c] 0)
  | _ => False

theorem cellsAt_sound {s : AS} {x : AV} {K : List AV → Nat → Prop} (h : cellsAt s x K) : ∃ cs off, K cs off ∧ ∀ (ρ : Env) (w : World) (v : Value), HR w ρ s.L → VR w ρ v x →
    ∃ b o, v = .pointer (some ⟨b, o + off, none⟩) ∧ ∀ (j : Nat) y, cs[j]? = some y → ∃ u, w.cell? ⟨b, o + j, none⟩ = some u ∧ VR w ρ u y := by
  cases x <;> simp only [cellsAt] at h
  case ip cs =>
    refine ⟨cs, 0, h, fun ρ w v hr hv => ?_⟩
    cases hv with
    | pr hp => cases hp
    | ip b o cs cv ho hlt hcell hread => exact ⟨b, o, rfl, fun j y hy => ⟨_, hcell j y hy, .pr (hread j y hy)⟩⟩
  case ptr r off =>
    obtain ⟨cs, hL, hK⟩ := h
    refine ⟨cs, off, hK, fun ρ w v hr hv => ?_⟩
    cases hv with
    | pr hp => cases hp
    | ptr r off b base hb =>
      obtain ⟨b', c, e, h1, h2, h3, h4⟩ := hr.ent r _ _ hL hb
      cases h1
      refine ⟨b, 0, rfl, fun j y hy => ?_⟩
      have hj : j < c.size := by
        rcases Nat.lt_or_ge j cs.length with h' | h'
        · omega
        · simp [List.getElem?_eq_none h'] at hy
      refine ⟨c[j], ?_, h4 j _ y (by simp [hj]) hy⟩
      simp only [World.cell?, h2]
      simp [hj]
  case vp r k i off =>
    rcases h with ⟨es, hL, e, he, hK⟩ | ⟨rfl, rfl, cs, hL, e, he, hK⟩
    rotate_left
    · refine ⟨[e], 0, hK, fun ρ w v hr hv => ?_⟩
      cases hv with
      | pr hp => cases hp
      | vp r k i off b base hb =>
        rcases hr.ent r _ _ hL hb with ⟨hz, _⟩ | ⟨b', base', c, ty, h1, h2, h3, h4⟩
        · cases hz
        · cases h1
          have hi : i < cs.length := (List.getElem?_eq_some_iff.1 he).1
          have hj : base + i < c.size := by omega
          refine ⟨b, base + i, by simp, fun j y hy => ?_⟩
          cases j with
          | succ j => simp at hy
          | zero =>
            simp at hy; subst hy
            refine ⟨c[base + i], ?_, h4 i _ _ (by simp [hj]) he⟩
            simp only [World.cell?, h2]
            simp [hj]
    refine ⟨e, off, hK, fun ρ w v hr hv => ?_⟩
    cases hv with
    | pr hp => cases hp
    | vp r k i off b base hb =>
      obtain ⟨_, _, h | ⟨b', base', c, ty, h1, h2, h3, h4⟩⟩ := hr.ent r _ _ hL hb
      · cases h.1
      · cases h1
        refine ⟨b, base + i * k, rfl, fun j y hy => ?_⟩
        obtain ⟨u, h5, h6⟩ := h4 i j e y he hy
        refine ⟨u, ?_, .pr h6⟩
        simp only [World.cell?, h2]
        simpa using h5

def qLoad (T : TypeId → Ty) (t : TypeId) (s : AS) (x : AV) (K : AV → Prop) : Prop :=
  (T t).kd.ok = true ∧ cellsAt s x fun cs off => ∃ r, rdC (T t) cs off = some r ∧ K r

theorem qLoad_sound (hT : TTOk P T) {t : TypeId} {s : AS} {x : AV} {K : AV → Prop} (h : qLoad T t s x K) : ∃ r, K r ∧ ∀ (ρ : Env) (w : World) (v : Value), HR w ρ s.L → VR w ρ v x →
    ∃ u, (Instr.loadAt t v).run P w = .ok u w ∧ VR w ρ u r := by
  obtain ⟨hk, h⟩ := h
  obtain ⟨cs, off, ⟨r, hr, hK⟩, hh⟩ := cellsAt_sound h
  refine ⟨r, hK, fun ρ w v hw hv => ?_⟩
  obtain ⟨b, o, rfl, hc⟩ := hh ρ w v hw hv
  obtain ⟨u, h1, h2⟩ := run_loadVar hT hk hc hr
  exact ⟨u, by simp [Instr.loadAt, Instr.sureAddr, h1], h2⟩

/-- A pointer moved on by some cells. -/
def AV.move (x : AV) (n : Nat) (K : AV → Prop) : Prop :=
  match x with
  | .ip cs => n ≤ cs.length ∧ K (.ip (cs.drop n))
  | .ptr r off => K (.ptr r (off + n))
  | .vp r k i off => K (.vp r k i (off + n))
  | _ => False

theorem move_sound {x : AV} {n : Nat} {K : AV → Prop} (h : x.move n K) : ∃ r, K r ∧ ∀ (ρ : Env) (w : World) (v : Value), VR w ρ v x →
    ∃ b o, v = .pointer (some ⟨b, o, none⟩) ∧ VR w ρ (.pointer (some ⟨b, o + n, none⟩)) r := by
  cases x <;> simp only [AV.move] at h
  case ip cs =>
    refine ⟨_, h.2, fun ρ w v hv => ?_⟩
    cases hv with
    | pr hp => cases hp
    | ip b o cs cv ho hlt hcell hread =>
      refine ⟨b, o, rfl, .ip b (o + n) _ (fun j => cv (n + j)) ho hlt (fun j x hx => ?_) fun j x hx => ?_⟩
      · rw [List.getElem?_drop] at hx
        rw [Nat.add_assoc]
        exact hcell _ x hx
      · rw [List.getElem?_drop] at hx
        exact hread _ x hx
  case ptr r off =>
    refine ⟨_, h, fun ρ w v hv => ?_⟩
    cases hv with
    | pr hp => cases hp
    | ptr r off b base hb => exact ⟨b, _, rfl, by rw [Nat.add_assoc]; exact .ptr r (off + n) b base hb⟩
  case vp r k i off =>
    refine ⟨_, h, fun ρ w v hv => ?_⟩
    cases hv with
    | pr hp => cases hp
    | vp r k i off b base hb => exact ⟨b, _, rfl, by rw [Nat.add_assoc]; exact .vp r k i (off + n) b base hb⟩

def qField (T : TypeId → Ty) (st : TypeId) (x : AV) (f : Nat) (K : AV → Prop) : Prop :=
  match (T st).kd with
  | .struct fs => ∃ p, fs[f]? = some p ∧ (T p.2).kd.ok = true ∧ (T p.2).size ≠ 0 ∧ x.move p.1 K
  | _ => False

theorem qField_sound (hT : TTOk P T) {st : TypeId} {x : AV} {f : Nat} {K : AV → Prop} (h : qField T st x f K) : ∃ r, K r ∧ ∀ (ρ : Env) (w : World) (v : Value), VR w ρ v x →
    ∃ u, (Instr.fieldAt st v f).run P w = .ok u w ∧ VR w ρ u r := by
  unfold qField at h
  split at h
  · rename_i fs hk
    obtain ⟨p, hp, hok, hne, hm⟩ := h
    obtain ⟨r, hK, hh⟩ := move_sound hm
    refine ⟨r, hK, fun ρ w v hv => ?_⟩
    obtain ⟨b, o, rfl, hr⟩ := hh ρ w v hv
    obtain ⟨i, d, z, h1, h2, h3, _⟩ := hT.ty st (by rw [hk]; rfl)
    rw [hk] at h3
    obtain ⟨fl, rfl, hfl⟩ := h3
    refine ⟨_, ?_, hr⟩
    have hf : ∃ fd, fl[f]? = some fd ∧ (fd.offset, fd.type) = p := by
      rw [← hfl, List.getElem?_map] at hp
      cases hq : fl.toList[f]? with
      | none => simp [hq] at hp
      | some fd => exact ⟨fd, by simpa using hq, by simpa [hq] using hp⟩
    obtain ⟨fd, h4, rfl⟩ := hf
    simp [Instr.fieldAt, run_underlying h2, h4, Instr.sureAddr, fieldPlace, run_size hT hok, hne, add_off]
  · cases h

/-! ### Slices and arrays, element by element -/

def qIndexAddr (T : TypeId → Ty) (t : TypeId) (x i : AV) (K : AV → Prop) : Prop :=
  match i with
  | .val (.int _ n) => 0 ≤ n ∧
    match (T t).kd with
    | .slice e => (T e).kd.ok = true ∧
      match x with
      | .sl es => ∃ c, es[n.toNat]? = some c ∧ c.length = (T e).size ∧ K (.ip c)
      | .os r k off len => k = (T e).size ∧ n < len ∧ K (.vp r k (off + n.toNat) 0)
      | _ => False
    | .array len e => (T e).kd.ok = true ∧ n < len ∧ x.move (n.toNat * (T e).size) K
    | _ => False
  | _ => False

theorem qIndexAddr_sound (hT : TTOk P T) {t : TypeId} {x i : AV} {K : AV → Prop} (h : qIndexAddr T t x i K) : ∃ r, K r ∧ ∀ (ρ : Env) (w : World) (v vi : Value), VR w ρ v x → VR w ρ vi i →
    ∃ u, (Instr.indexAt t v vi).run P w = .ok u w ∧ VR w ρ u r := by
  unfold qIndexAddr at h
  split at h
  · rename_i ik n
    obtain ⟨h0, h⟩ := h
    have hvi : ∀ {ρ : Env} {w : World} {vi : Value}, VR w ρ vi (.val (.int ik n)) → vi = .int ik n := fun hv => by
      cases hv with | pr hp => cases hp; rfl
    split at h
    · rename_i e hk
      obtain ⟨i, d, z, h1, h2, h3, _⟩ := hT.ty t (by rw [hk]; rfl)
      rw [hk] at h3
      simp only [KdOk] at h3
      subst h3
      obtain ⟨hok, h⟩ := h
      split at h
      · rename_i es
        obtain ⟨c, hc, hl, hK⟩ := h
        refine ⟨_, hK, fun ρ w v vi hv hi => ?_⟩
        have := hvi hi
        subst this
        cases hv with
        | pr hp =>
          cases hp with
          | slnil => simp at hc
          | sl b o k len cp es cv hn hp0 hcp hk' ho hlt hll hcell hread =>
            have hnl : n.toNat < es.length := by
              rcases Nat.lt_or_ge n.toNat es.length with h' | h'
              · exact h'
              · simp [List.getElem?_eq_none h'] at hc
            have hkk : k = (T e).size := by rw [← hll _ _ hc, hl]
            refine ⟨.pointer (some ⟨b, o + n.toNat * k, none⟩), ?_, .ip b (o + n.toNat * k) c (cv n.toNat) ho hlt (fun j x hx => hcell _ j c x hc hx) fun j x hx => hread _ j c x hc hx⟩
            have hlen : n < (len : Int) := by omega
            simp [Instr.indexAt, asIntOf, run_underlying h2, h0, hlen, run_size hT hok, add_off, hkk]
      · rename_i r k off len
        obtain ⟨hkk, hlt, hK⟩ := h
        refine ⟨_, hK, fun ρ w v vi hv hi => ?_⟩
        have := hvi hi
        subst this
        cases hv with
        | pr hp => cases hp
        | osnil => omega
        | osz => omega
        | os r k off len cp b base cs ety fz hr hcp hb hsz =>
          refine ⟨.pointer (some ⟨b, base + (off + n.toNat) * k + 0, none⟩), ?_, .vp r k _ 0 b base hr⟩
          have : base + (off + n.toNat) * k + 0 = base + off * k + n.toNat * k := by rw [Nat.add_mul]; omega
          rw [this]
          simp [Instr.indexAt, asIntOf, run_underlying h2, h0, hlt, run_size hT hok, add_off, hkk]
      · cases h
    · rename_i len e hk
      obtain ⟨i, d, z, h1, h2, h3, _⟩ := hT.ty t (by rw [hk]; rfl)
      rw [hk] at h3
      simp only [KdOk] at h3
      subst h3
      obtain ⟨hok, hlt, hm⟩ := h
      obtain ⟨r, hK, hh⟩ := move_sound hm
      refine ⟨r, hK, fun ρ w v vi hv hi => ?_⟩
      have := hvi hi
      subst this
      obtain ⟨b, o, rfl, hr⟩ := hh ρ w v hv
      refine ⟨_, ?_, hr⟩
      simp [Instr.indexAt, asIntOf, run_underlying h2, h0, hlt, run_size hT hok, add_off, Instr.sureAddr]
    · cases h
  · cases h

def qLen (T : TypeId → Ty) (t : TypeId) (x : AV) (K : AV → Prop) : Prop :=
  match (T t).kd with
  | .slice _ =>
    match x with
    | .sl es => K (.val (.int .i64 es.length))
    | .os _ _ _ n => K (.val (.int .i64 n))
    | .val (.slice _ n _) => K (.val (.int .i64 n))
    | _ => False
  | .str =>
    match x with
    | .val (.string s) => K (.val (.int .i64 s.size))
    | _ => False
  | _ => False

theorem qLen_sound (hT : TTOk P T) {t ty : TypeId} {x : AV} {K : AV → Prop} (h : qLen T t x K) : ∃ r, K r ∧ ∀ (ρ : Env) (w : World) (v : Value), VR w ρ v x →
    ∃ u, (Builtin.len_ #[t] ty #[v]).run P w = .ok u w ∧ VR w ρ u r := by
  unfold qLen at h
  split at h
  · rename_i e hk
    obtain ⟨i, d, z, h1, h2, h3, _⟩ := hT.ty t (by rw [hk]; rfl)
    rw [hk] at h3; simp only [KdOk] at h3; subst h3
    split at h
    · refine ⟨_, h, fun ρ w v hv => ?_⟩
      cases hv with
      | pr hp =>
        cases hp with
        | slnil => exact ⟨_, by simp [Builtin.len_, run_underlying h2, goInt], .pr (.val _)⟩
        | sl b o k n c es cv hn => subst hn; exact ⟨_, by simp [Builtin.len_, run_underlying h2, goInt], .pr (.val _)⟩
    · refine ⟨_, h, fun ρ w v hv => ?_⟩
      cases hv with
      | pr hp => cases hp
      | osnil => exact ⟨_, by simp [Builtin.len_, run_underlying h2, goInt], .pr (.val _)⟩
      | osz => exact ⟨_, by simp [Builtin.len_, run_underlying h2, goInt], .pr (.val _)⟩
      | os => exact ⟨_, by simp [Builtin.len_, run_underlying h2, goInt], .pr (.val _)⟩
    · refine ⟨_, h, fun ρ w v hv => ?_⟩
      cases hv with
      | pr hp => cases hp; exact ⟨_, by simp [Builtin.len_, run_underlying h2, goInt], .pr (.val _)⟩
    · cases h
  · rename_i hk
    obtain ⟨i, d, z, h1, h2, h3, _⟩ := hT.ty t (by rw [hk]; rfl)
    rw [hk] at h3; simp only [KdOk] at h3; subst h3
    split at h
    · refine ⟨_, h, fun ρ w v hv => ?_⟩
      cases hv with
      | pr hp => cases hp; exact ⟨_, by simp [Builtin.len_, run_underlying h2, goInt], .pr (.val _)⟩
    · cases h
  · cases h

/-! ### Parts of slices -/

/-- A bound of a slice expression, if it is told. -/
def bnd (d : Nat) : Option AV → Option Nat
  | none => some d
  | some (.val (.int _ n)) => if 0 ≤ n then some n.toNat else none
  | _ => none

def qSlice (T : TypeId → Ty) (t : TypeId) (x : AV) (lo hi mx : Option AV) (K : AV → Prop) : Prop :=
  mx = none ∧
  match (T t).kd with
  | .slice e => (T e).kd.ok = true ∧
    match x with
    | .sl es => ∃ l, bnd 0 lo = some l ∧ ∃ h, bnd es.length hi = some h ∧ l ≤ h ∧ h ≤ es.length ∧ (∀ c, es[0]? = some c → c.length = (T e).size) ∧ K (.sl ((es.take h).drop l))
    | .os r k off n => k = (T e).size ∧ ∃ l, bnd 0 lo = some l ∧ ∃ h, bnd n hi = some h ∧ l ≤ h ∧ h ≤ n ∧ K (.os r k (off + l) (h - l))
    | _ => False
  | .str =>
    match x with
    | .val (.string s) => ∃ l, bnd 0 lo = some l ∧ ∃ h, bnd s.size hi = some h ∧ l ≤ h ∧ h ≤ s.size ∧ K (.val (.string (s.extract l h)))
    | _ => False
  | _ => False

theorem run_bounds (b : Bool) (len cap : Nat) (lo hi : Option AV) (ol oh : Option Value) {l h : Nat} (ρ : Env) (w : World) (hlo : bnd 0 lo = some l) (hhi : bnd len hi = some h) (hle : l ≤ h) (hc : h ≤ cap)
    (h1 : ∀ x, lo = some x → ∃ v, ol = some v ∧ VR w ρ v x) (h1' : lo = none → ol = none) (h2 : ∀ x, hi = some x → ∃ v, oh = some v ∧ VR w ρ v x) (h2' : hi = none → oh = none) :
    (Instr.sliceBounds b len cap ol oh none).run P w = .ok (l, h, cap) w := by
  have e1 : (ol = none ∧ l = 0) ∨ ∃ kk n, ol = some (.int kk n) ∧ 0 ≤ n ∧ l = n.toNat := by
    cases lo with
    | none => simp only [bnd, Option.some.injEq] at hlo; exact .inl ⟨h1' rfl, hlo.symm⟩
    | some x =>
      obtain ⟨v, rfl, hv⟩ := h1 x rfl
      cases x <;> simp only [bnd] at hlo <;> try (cases hlo; done)
      rename_i v'
      cases v' <;> simp only at hlo <;> try (cases hlo; done)
      rename_i kk n
      split at hlo
      · cases hlo
        cases hv with
        | pr hp => cases hp; exact .inr ⟨kk, n, rfl, by assumption, rfl⟩
      · cases hlo
  have e2 : (oh = none ∧ h = len) ∨ ∃ kk n, oh = some (.int kk n) ∧ 0 ≤ n ∧ h = n.toNat := by
    cases hi with
    | none => simp only [bnd, Option.some.injEq] at hhi; exact .inl ⟨h2' rfl, hhi.symm⟩
    | some x =>
      obtain ⟨v, rfl, hv⟩ := h2 x rfl
      cases x <;> simp only [bnd] at hhi <;> try (cases hhi; done)
      rename_i v'
      cases v' <;> simp only at hhi <;> try (cases hhi; done)
      rename_i kk n
      split at hhi
      · cases hhi
        cases hv with
        | pr hp => cases hp; exact .inr ⟨kk, n, rfl, by assumption, rfl⟩
      · cases hhi
  clear h1 h1' h2 h2' hlo hhi
  rcases e1 with ⟨rfl, rfl⟩ | ⟨k1, n1, rfl, p1, rfl⟩ <;> rcases e2 with ⟨rfl, rfl⟩ | ⟨k2, n2, rfl, p2, rfl⟩
  · simp [Instr.sliceBounds]
  · simp [Instr.sliceBounds, run_sliceBound w k2 n2 cap _ p2 (by omega)]
  · simp [Instr.sliceBounds, run_sliceBound w k1 n1 h _ p1 (by omega)]
  · simp [Instr.sliceBounds, run_sliceBound w k2 n2 cap _ p2 (by omega), run_sliceBound w k1 n1 n2.toNat _ p1 (by omega)]

theorem qSlice_sound (hT : TTOk P T) {t : TypeId} {x : AV} {lo hi mx : Option AV} {K : AV → Prop} (h : qSlice T t x lo hi mx K) : ∃ r, K r ∧ ∀ (ρ : Env) (w : World) (v : Value) (ol oh om : Option Value), VR w ρ v x →
    (∀ x, lo = some x → ∃ v, ol = some v ∧ VR w ρ v x) → (lo = none → ol = none) → (∀ x, hi = some x → ∃ v, oh = some v ∧ VR w ρ v x) → (hi = none → oh = none) → (mx = none → om = none) →
    ∃ u, (Instr.sliceAt t v ol oh om).run P w = .ok u w ∧ VR w ρ u r := by
  obtain ⟨rfl, h⟩ := h
  split at h
  · rename_i e hk
    obtain ⟨hok, h⟩ := h
    obtain ⟨i, d, z, h1, h2, h3, _⟩ := hT.ty t (by rw [hk]; rfl)
    rw [hk] at h3; simp only [KdOk] at h3; subst h3
    split at h
    · rename_i es
      obtain ⟨l, hl, hh, hhi, hle, hle', hsz, hK⟩ := h
      refine ⟨_, hK, fun ρ w v ol oh om hv a1 a2 a3 a4 a5 => ?_⟩
      have := a5 rfl
      subst this
      cases hv with
      | pr hp =>
        cases hp with
        | slnil a c =>
          have hb := run_bounds (P := P) true 0 c lo hi ol oh ρ w hl hhi hle (by simp at hle'; omega) a1 a2 a3 a4
          simp at hle'
          subst hle'
          have : l = 0 := by omega
          subst this
          refine ⟨_, by simp only [Instr.sliceAt, Instr.slice, Sem.run_bind, run_underlying h2, Result.andThen_ok, hb, run_size hT hok, Sem.run_pure]; rfl, ?_⟩
          simp only [List.take_nil, List.drop_nil]
          exact .pr (.slnil _ _)
        | sl b o k n c es cv hn h0 hc hk' ho hlt hll hcell hread =>
          subst hn
          have hb := run_bounds (P := P) true es.length c lo hi ol oh ρ w hl hhi hle (by omega) a1 a2 a3 a4
          have hkk : k = (T e).size := by
            obtain ⟨c0, hc0⟩ : ∃ c0, es[0]? = some c0 := ⟨es[0], List.getElem?_eq_getElem h0⟩
            rw [← hll _ _ hc0, hsz _ hc0]
          refine ⟨_, by simp only [Instr.sliceAt, Instr.slice, Sem.run_bind, run_underlying h2, Result.andThen_ok, hb, run_size hT hok, Sem.run_pure]; rfl, ?_⟩
          have hlen : ((es.take hh).drop l).length = hh - l := by simp; omega
          by_cases hz : hh - l = 0
          · have hnil : (es.take hh).drop l = [] := List.length_eq_zero_iff.1 (by omega)
            rw [hz, hnil]
            exact .pr (.slnil _ _)
          · rw [if_neg (by omega)]
            simp only [Option.map_some, add_off]
            refine .pr (.sl b (o + l * (T e).size) k (hh - l) (c - l) _ (fun i j => cv (l + i) j) hlen (by omega) (by omega) hk' ho hlt (fun i e' he => ?_) (fun i j e' x he hx => ?_) fun i j e' x he hx => ?_)
            all_goals
              rw [List.getElem?_drop] at he
              have hlt' : l + i < hh := by
                rcases Nat.lt_or_ge (l + i) hh with h' | h'
                · exact h'
                · rw [List.getElem?_eq_none (by simp; omega)] at he; cases he
              rw [List.getElem?_take_of_lt hlt'] at he
            · exact hll _ _ he
            · have := hcell _ j _ x he hx
              rw [← hkk, show o + l * k + i * k + j = o + (l + i) * k + j by rw [Nat.add_mul]; omega]
              exact this
            · exact hread _ j _ x he hx
    · rename_i r k off n
      obtain ⟨hkk, l, hl, hh, hhi, hle, hle', hK⟩ := h
      refine ⟨_, hK, fun ρ w v ol oh om hv a1 a2 a3 a4 a5 => ?_⟩
      have := a5 rfl
      subst this
      cases hv with
      | pr hp => cases hp
      | osnil _ _ hr =>
        have hb := run_bounds (P := P) true 0 0 lo hi ol oh ρ w hl hhi hle (by omega) a1 a2 a3 a4
        have e1 : hh = 0 := by omega
        have e2 : l = 0 := by omega
        subst e1; subst e2
        exact ⟨_, by simp only [Instr.sliceAt, Instr.slice, Sem.run_bind, run_underlying h2, Result.andThen_ok, hb, run_size hT hok, Sem.run_pure]; rfl, .osnil r k hr⟩
      | osz r k off a b base hr =>
        have hb := run_bounds (P := P) true 0 0 lo hi ol oh ρ w hl hhi hle (by omega) a1 a2 a3 a4
        have e1 : hh = 0 := by omega
        have e2 : l = 0 := by omega
        subst e1; subst e2
        exact ⟨_, by simp only [Instr.sliceAt, Instr.slice, Sem.run_bind, run_underlying h2, Result.andThen_ok, hb, run_size hT hok, Sem.run_pure]; rfl, .osz r k _ _ b base hr⟩
      | os r k off n c b base cs ety fz hr hcp hb' hsz =>
        have hb := run_bounds (P := P) true n c lo hi ol oh ρ w hl hhi hle (by omega) a1 a2 a3 a4
        refine ⟨_, by simp only [Instr.sliceAt, Instr.slice, Sem.run_bind, run_underlying h2, Result.andThen_ok, hb, run_size hT hok, Sem.run_pure]; rfl, ?_⟩
        by_cases hcl : c = l
        · rw [if_pos hcl]
          have e1 : hh - l = 0 := by omega
          have e2 : c - l = 0 := by omega
          rw [e1, e2]
          exact .osz r k _ _ b base hr
        · rw [if_neg hcl]
          simp only [Option.map_some, add_off, ← hkk]
          rw [show base + off * k + l * k = base + (off + l) * k by rw [Nat.add_mul]; omega]
          refine .os r k (off + l) (hh - l) (c - l) b base cs ety fz hr (by omega) hb' ?_
          rw [show off + l + (c - l) = off + c by omega]
          exact hsz
    · cases h
  · rename_i hk
    obtain ⟨i, d, z, h1, h2, h3, _⟩ := hT.ty t (by rw [hk]; rfl)
    rw [hk] at h3; simp only [KdOk] at h3; subst h3
    split at h
    · rename_i s
      obtain ⟨l, hl, hh, hhi, hle, hle', hK⟩ := h
      refine ⟨_, hK, fun ρ w v ol oh om hv a1 a2 a3 a4 a5 => ?_⟩
      have := a5 rfl
      subst this
      cases hv with
      | pr hp =>
        cases hp
        have hb := run_bounds (P := P) false s.size s.size lo hi ol oh ρ w hl hhi hle hle' a1 a2 a3 a4
        exact ⟨_, by simp [Instr.sliceAt, Instr.slice, run_underlying h2, hb], .pr (.val _)⟩
    · cases h
  · cases h

end

end Go.Pc

/- The abstract logic, third part: scalar operations, aggregates, and the table of all operations that leave the world alone. -/
namespace Go.Pc
open Go

section
variable {P : Program} {T : TypeId → Ty}

/-! ### Scalars -/

def eqA : List SK → List AV → List AV → Option Bool
  | .int :: ks, .val (.int .i64 a) :: xs, .val (.int .i64 b) :: ys => (eqA ks xs ys).map (decide (a = b) && ·)
  | .bool :: ks, .val (.bool a) :: xs, .val (.bool b) :: ys => (eqA ks xs ys).map (decide (a = b) && ·)
  | [], [], [] => some true
  | _, _, _ => none

def Kd.isSl : Kd → Bool
  | .slice _ => true
  | _ => false

def qBin (T : TypeId → Ty) (op : BinOp) (xt : TypeId) (x y : AV) (K : AV → Prop) : Prop :=
  match x, y with
  | .val (.int k a), .val (.int k' b) =>
    match op with
    | .add => k = k' ∧ K (.val (.int k (k.wrap (a + b))))
    | .sub => k = k' ∧ K (.val (.int k (k.wrap (a - b))))
    | .mul => k = k' ∧ K (.val (.int k (k.wrap (a * b))))
    | .quo => k = k' ∧ b ≠ 0 ∧ K (.val (.int k (k.wrap (a.tdiv b))))
    | .rem => k = k' ∧ b ≠ 0 ∧ K (.val (.int k (a.tmod b)))
    | .and => k = k' ∧ K (.val (.int k (k.wrap (BitVec.ofInt k.bits a &&& BitVec.ofInt k.bits b).toNat)))
    | .or => k = k' ∧ K (.val (.int k (k.wrap (BitVec.ofInt k.bits a ||| BitVec.ofInt k.bits b).toNat)))
    | .xor => k = k' ∧ K (.val (.int k (k.wrap (BitVec.ofInt k.bits a ^^^ BitVec.ofInt k.bits b).toNat)))
    | .andNot => k = k' ∧ K (.val (.int k (k.wrap (BitVec.ofInt k.bits a &&& ~~~ BitVec.ofInt k.bits b).toNat)))
    | .shl => 0 ≤ b ∧ K (.val (.int k (k.wrap (a * 2 ^ min b.toNat k.bits))))
    | .shr => 0 ≤ b ∧ K (.val (.int k (a / 2 ^ min b.toNat k.bits)))
    | .eql => k = k' ∧ K (.val (.bool (decide (a = b))))
    | .neq => k = k' ∧ K (.val (.bool (!decide (a = b))))
    | .lss => k = k' ∧ K (.val (.bool (decide (a < b))))
    | .leq => k = k' ∧ K (.val (.bool (decide (a ≤ b))))
    | .gtr => k = k' ∧ K (.val (.bool (decide (b < a))))
    | .geq => k = k' ∧ K (.val (.bool (decide (b ≤ a))))
  | .val (.string a), .val (.string b) =>
    match op with
    | .add => a.size + b.size ≤ 9223372036854775807 ∧ K (.val (.string (a ++ b)))
    | .eql => K (.val (.bool (decide (a = b))))
    | .neq => K (.val (.bool (!decide (a = b))))
    | _ => False
  | .val (.bool a), .val (.bool b) => (T xt).kd = .bool ∧
    match op with
    | .eql => K (.val (.bool (decide (a = b))))
    | .neq => K (.val (.bool (!decide (a = b))))
    | _ => False
  | .agg xs, .agg ys => (T xt).eqk ≠ [] ∧ ∃ r, eqA (T xt).eqk xs ys = some r ∧
    match op with
    | .eql => K (.val (.bool r))
    | .neq => K (.val (.bool (!r)))
    | _ => False
  | .sl es, .val (.slice none 0 0) => (es ≠ [] ∧ (T xt).kd.isSl = true) ∧
    match op with
    | .eql => K (.val (.bool false))
    | .neq => K (.val (.bool true))
    | _ => False
  | _, _ => False

theorem val_inv {w : World} {ρ : Env} {v u : Value} (h : VR w ρ v (.val u)) : v = u := by
  cases h with | pr hp => cases hp; rfl

theorem eqA_sound : ∀ (ks : List SK) (xs ys : List AV) (r : Bool), eqA ks xs ys = some r → ∀ (w : World) (ρ : Env) (as bs : List Value), as.length = xs.length → bs.length = ys.length →
    (∀ (i : Nat) v x, as[i]? = some v → xs[i]? = some x → VR w ρ v x) → (∀ (i : Nat) v x, bs[i]? = some v → ys[i]? = some x → VR w ρ v x) → KM ks as ∧ KM ks bs ∧ eqV as bs = r := by
  intro ks
  induction ks with
  | nil =>
    intro xs ys r h w ρ as bs ha hb h1 h2
    cases xs <;> cases ys <;> simp [eqA] at h
    subst h
    simp at ha hb
    subst ha; subst hb
    exact ⟨trivial, trivial, rfl⟩
  | cons k ks ih =>
    intro xs ys r h w ρ as bs ha hb h1 h2
    unfold eqA at h
    split at h
    · rename_i ks' a xs' b ys' e1
      cases e1
      cases as with
      | nil => simp at ha
      | cons v as =>
        cases bs with
        | nil => simp at hb
        | cons u bs =>
          have e1 := val_inv (h1 0 v _ rfl rfl)
          have e2 := val_inv (h2 0 u _ rfl rfl)
          subst e1; subst e2
          cases hr : eqA ks xs' ys' with
          | none => simp [hr] at h
          | some r' =>
            simp [hr] at h
            obtain ⟨g1, g2, g3⟩ := ih xs' ys' r' hr w ρ as bs (by simpa using ha) (by simpa using hb) (fun i v x hv hx => h1 (i + 1) v x hv hx) (fun i v x hv hx => h2 (i + 1) v x hv hx)
            exact ⟨g1, g2, by simp only [eqV, g3]; exact h⟩
    · rename_i ks' a xs' b ys' e1
      cases e1
      cases as with
      | nil => simp at ha
      | cons v as =>
        cases bs with
        | nil => simp at hb
        | cons u bs =>
          have e1 := val_inv (h1 0 v _ rfl rfl)
          have e2 := val_inv (h2 0 u _ rfl rfl)
          subst e1; subst e2
          cases hr : eqA ks xs' ys' with
          | none => simp [hr] at h
          | some r' =>
            simp [hr] at h
            obtain ⟨g1, g2, g3⟩ := ih xs' ys' r' hr w ρ as bs (by simpa using ha) (by simpa using hb) (fun i v x hv hx => h1 (i + 1) v x hv hx) (fun i v x hv hx => h2 (i + 1) v x hv hx)
            exact ⟨g1, g2, by simp only [eqV, g3]; exact h⟩
    · rename_i e1; cases e1
    · cases h

theorem decide_beq (a b : Int) : (a == b) = decide (a = b) := by
  rw [Bool.eq_iff_iff]; simp

theorem decide_beqB (a b : Bool) : (a == b) = decide (a = b) := by
  rw [Bool.eq_iff_iff]; simp

theorem decide_beqS (a b : ByteArray) : (a.toList == b.toList) = decide (a = b) := by
  rw [← beq_toListBytes, Bool.eq_iff_iff]
  obtain ⟨⟨x⟩⟩ := a
  obtain ⟨⟨y⟩⟩ := b
  show ((⟨x⟩ : Array UInt8) == ⟨y⟩) = true ↔ _
  simp

theorem run_guard_ne (op : BinOp) (t : TypeId) (x y : Operand) (a b : Value) (w : World) (h : ∀ xs ys, ¬ (a = .agg xs ∧ b = .agg ys)) (h' : ¬ (a = .nilIface ∧ b = .nilIface)) : (eqGuard op t x y a b).run P w = .ok () w := by
  cases op <;> first
    | rfl
    | (simp only [eqGuard, Bool.not_true, Bool.false_eq_true, if_false]
       split
       · exact absurd ⟨rfl, rfl⟩ h'
       · exact absurd ⟨rfl, rfl⟩ (h _ _)
       · rfl)

theorem qBin_sound (hT : TTOk P T) {op : BinOp} {xt : TypeId} {x y : AV} {K : AV → Prop} (h : qBin T op xt x y K) : ∃ r, K r ∧ ∀ (ρ : Env) (w : World) (v u : Value) (ox oy : Operand), VR w ρ v x → VR w ρ u y →
    ∃ z, (do eqGuard op xt ox oy v u; binOp op xt v u : Sem Value).run P w = .ok z w ∧ VR w ρ z r := by
  unfold qBin at h
  split at h
  · rename_i k a k' b
    have key : ∀ {w : World} {ρ : Env} {v u : Value} {ox oy : Operand} {z : Value}, VR w ρ v (.val (.int k a)) → VR w ρ u (.val (.int k' b)) → (binOp op xt (.int k a) (.int k' b)).run P w = .ok z w →
        ∃ z', (do eqGuard op xt ox oy v u; binOp op xt v u : Sem Value).run P w = .ok z' w ∧ VR w ρ z' (.val z) := fun hv hu hr => by
      have e1 := val_inv hv
      have e2 := val_inv hu
      subst e1; subst e2
      exact ⟨_, by simp only [Sem.run_bind, run_guard_ne (P := P) op xt _ _ (.int k a) (.int k' b) _ (by simp) (by simp), Result.andThen_ok, hr], .pr (.val _)⟩
    cases op <;> simp only at h
    case shl =>
      refine ⟨_, h.2, fun ρ w v u ox oy hv hu => key hv hu ?_⟩
      simp only [binOp]
      rw [shift_shl_any _ _ _ _ h.1]; rfl
    case shr =>
      refine ⟨_, h.2, fun ρ w v u ox oy hv hu => key hv hu ?_⟩
      simp only [binOp]
      rw [shift_shr_any _ _ _ _ h.1]; rfl
    case quo =>
      obtain ⟨rfl, hb, hK⟩ := h
      refine ⟨_, hK, fun ρ w v u ox oy hv hu => key hv hu ?_⟩
      simp [binOp, Op.intDiv, hb]
    case rem =>
      obtain ⟨rfl, hb, hK⟩ := h
      refine ⟨_, hK, fun ρ w v u ox oy hv hu => key hv hu ?_⟩
      simp [binOp, Op.intDiv, hb]
    all_goals
      obtain ⟨rfl, hK⟩ := h
      refine ⟨_, hK, fun ρ w v u ox oy hv hu => key hv hu ?_⟩
      simp [binOp, Op.intArith, Op.intBits, Op.intCmp, decide_beq, bne]
  · rename_i a b
    have key : ∀ {w : World} {ρ : Env} {v u : Value} {ox oy : Operand} {z : Value}, VR w ρ v (.val (.string a)) → VR w ρ u (.val (.string b)) → (binOp op xt (.string a) (.string b)).run P w = .ok z w →
        ∃ z', (do eqGuard op xt ox oy v u; binOp op xt v u : Sem Value).run P w = .ok z' w ∧ VR w ρ z' (.val z) := fun hv hu hr => by
      have e1 := val_inv hv
      have e2 := val_inv hu
      subst e1; subst e2
      exact ⟨_, by simp only [Sem.run_bind, run_guard_ne (P := P) op xt _ _ (.string a) (.string b) _ (by simp) (by simp), Result.andThen_ok, hr], .pr (.val _)⟩
    cases op <;> simp only at h
    case add =>
      refine ⟨_, h.2, fun ρ w v u ox oy hv hu => key hv hu ?_⟩
      have : ¬ (((a.size + b.size : Nat) : Int) > IntKind.i64.max) := by
        have hm : IntKind.i64.max = 9223372036854775807 := by decide
        rw [hm]; omega
      simp only [binOp, Op.stringOp]
      rw [if_neg this]; rfl
    all_goals
      refine ⟨_, h, fun ρ w v u ox oy hv hu => key hv hu ?_⟩
      simp [binOp, Op.stringOp, decide_beqS]
  · rename_i a b
    obtain ⟨hk, h⟩ := h
    obtain ⟨i, d, z, h1, h2, h3, _⟩ := hT.ty xt (by rw [hk]; rfl)
    rw [hk] at h3; simp only [KdOk] at h3; subst h3
    have key : ∀ {w : World} {ρ : Env} {v u : Value} {ox oy : Operand} {z : Value}, VR w ρ v (.val (.bool a)) → VR w ρ u (.val (.bool b)) → (binOp op xt (.bool a) (.bool b)).run P w = .ok z w →
        ∃ z', (do eqGuard op xt ox oy v u; binOp op xt v u : Sem Value).run P w = .ok z' w ∧ VR w ρ z' (.val z) := fun hv hu hr => by
      have e1 := val_inv hv
      have e2 := val_inv hu
      subst e1; subst e2
      exact ⟨_, by simp only [Sem.run_bind, run_guard_ne (P := P) op xt _ _ (.bool a) (.bool b) _ (by simp) (by simp), Result.andThen_ok, hr], .pr (.val _)⟩
    cases op <;> simp only at h
    case eql => exact ⟨_, h, fun ρ w v u ox oy hv hu => key hv hu (by rw [run_eql_bool w xt a b h2, decide_beqB])⟩
    case neq => exact ⟨_, h, fun ρ w v u ox oy hv hu => key hv hu (by rw [run_neq_bool w xt a b h2, decide_beqB])⟩
  · rename_i xs ys
    obtain ⟨hne, r, hr, h⟩ := h
    obtain ⟨hg, he⟩ := hT.eq xt hne
    have key : ∀ {w : World} {ρ : Env} {v u : Value}, VR w ρ v (.agg xs) → VR w ρ u (.agg ys) → ∃ as bs, v = .agg as ∧ u = .agg bs ∧ (Op.equalIn 10000 xt (.agg as) (.agg bs)).run P w = .ok r w := fun hv hu => by
      cases hv with
      | pr hp => cases hp
      | agg as _ hs h1 =>
        cases hu with
        | pr hp => cases hp
        | agg bs _ hs' h2 =>
          obtain ⟨g1, g2, g3⟩ := eqA_sound _ xs ys r hr _ _ as.toList bs.toList (by simpa using hs) (by simpa using hs') (fun i v x hv hx => h1 i v x (by simpa using hv) hx) (fun i v x hv hx => h2 i v x (by simpa using hv) hx)
          exact ⟨as, bs, rfl, rfl, by have := he _ _ g1 g2; rw [g3] at this; exact this _⟩
    cases op <;> simp only at h
    case eql =>
      refine ⟨_, h, fun ρ w v u ox oy hv hu => ?_⟩
      obtain ⟨as, bs, rfl, rfl, hh⟩ := key hv hu
      exact ⟨_, by simp only [Sem.run_bind, run_eqGuard_agg w _ _ _ _ _ _ hg, Result.andThen_ok, run_eql_struct, hh], .pr (.val _)⟩
    case neq =>
      refine ⟨_, h, fun ρ w v u ox oy hv hu => ?_⟩
      obtain ⟨as, bs, rfl, rfl, hh⟩ := key hv hu
      exact ⟨_, by simp only [Sem.run_bind, run_eqGuard_agg w _ _ _ _ _ _ hg, Result.andThen_ok, run_neq_struct, hh], .pr (.val _)⟩
  · rename_i es
    obtain ⟨⟨hne, hsl⟩, h⟩ := h
    have hk : ∃ e, (T xt).kd = .slice e := by
      cases hkd : (T xt).kd <;> rw [hkd] at hsl <;> simp [Kd.isSl] at hsl
      exact ⟨_, rfl⟩
    obtain ⟨e, hk⟩ := hk
    obtain ⟨i, d, z, h1, h2, h3, _⟩ := hT.ty xt (by rw [hk]; rfl)
    rw [hk] at h3; simp only [KdOk] at h3; subst h3
    have key : ∀ {w : World} {ρ : Env} {v u : Value}, VR w ρ v (.sl es) → VR w ρ u (.val (.slice none 0 0)) → ∃ a n c, v = .slice (some a) n c ∧ u = .slice none 0 0 ∧ (Op.equalIn 10000 xt (.slice (some a) n c) (.slice none 0 0)).run P w = .ok false w := fun hv hu => by
      have e2 := val_inv hu
      cases hv with
      | pr hp =>
        cases hp with
        | slnil => exact absurd rfl hne
        | sl b o k n c es cv => exact ⟨_, _, _, rfl, e2, by rw [show (10000 : Nat) = 9999 + 1 from rfl, Op.equalIn]; simp only [Sem.run_bind, run_underlying h2, Result.andThen_ok, Sem.run_pure]⟩
    cases op <;> simp only at h
    case eql =>
      refine ⟨_, h, fun ρ w v u ox oy hv hu => ?_⟩
      obtain ⟨a, n, c, rfl, rfl, hh⟩ := key hv hu
      exact ⟨_, by simp [Sem.run_bind, run_guard_ne, binOp, Op.equal, Op.maxDepth, hh], .pr (.val _)⟩
    case neq =>
      refine ⟨_, h, fun ρ w v u ox oy hv hu => ?_⟩
      obtain ⟨a, n, c, rfl, rfl, hh⟩ := key hv hu
      exact ⟨_, by simp [Sem.run_bind, run_guard_ne, binOp, Op.equal, Op.maxDepth, hh], .pr (.val _)⟩
  · cases h

def qUn (op : UnOp) (x : AV) (K : AV → Prop) : Prop :=
  match op, x with
  | .not, .val (.bool b) => K (.val (.bool (!b)))
  | .neg, .val (.int k n) => K (.val (.int k (k.wrap (0 - n))))
  | _, _ => False

theorem qUn_sound {op : UnOp} {x : AV} {K : AV → Prop} (h : qUn op x K) : ∃ r, K r ∧ ∀ (ρ : Env) (w : World) (v : Value), VR w ρ v x →
    ∃ z, (Op.unary op v).run P w = .ok z w ∧ VR w ρ z r := by
  unfold qUn at h
  split at h
  · exact ⟨_, h, fun ρ w v hv => by have := val_inv hv; subst this; exact ⟨_, rfl, .pr (.val _)⟩⟩
  · exact ⟨_, h, fun ρ w v hv => by have := val_inv hv; subst this; exact ⟨_, rfl, .pr (.val _)⟩⟩
  · cases h

def qConv (T : TypeId → Ty) (src dst : TypeId) (x : AV) (K : AV → Prop) : Prop :=
  (T src).kd.ok = true ∧
  match (T dst).kd, x with
  | .intk k, .val (.int _ n) => K (.val (.int k (k.wrap n)))
  | .str, .val (.string s) => (T src).kd = .str ∧ K (.val (.string s))
  | _, _ => False

theorem qConv_sound (hT : TTOk P T) {src dst : TypeId} {x : AV} {K : AV → Prop} (h : qConv T src dst x K) : ∃ r, K r ∧ ∀ (ρ : Env) (w : World) (v : Value), VR w ρ v x →
    ∃ z, (convert src dst v).run P w = .ok z w ∧ VR w ρ z r := by
  obtain ⟨hs, h⟩ := h
  obtain ⟨i, d, z, h1, h2, h3, _⟩ := hT.ty src hs
  split at h
  · rename_i k n a hk
    obtain ⟨i', d', z', h1', h2', h3', _⟩ := hT.ty dst (by rw [hk]; rfl)
    rw [hk] at h3'; simp only [KdOk] at h3'; subst h3'
    refine ⟨_, h, fun ρ w v hv => ?_⟩
    have := val_inv hv; subst this
    refine ⟨_, ?_, .pr (.val _)⟩
    simp only [convert, Sem.run_bind, run_underlying h2, run_underlying h2', Result.andThen_ok]
    rfl
  · rename_i s hk
    obtain ⟨i', d', z', h1', h2', h3', _⟩ := hT.ty dst (by rw [hk]; rfl)
    rw [hk] at h3'; simp only [KdOk] at h3'; subst h3'
    obtain ⟨hk2, h⟩ := h
    rw [hk2] at h3; simp only [KdOk] at h3; subst h3
    refine ⟨_, h, fun ρ w v hv => ?_⟩
    have := val_inv hv; subst this
    refine ⟨_, ?_, .pr (.val _)⟩
    simp only [convert, Sem.run_bind, run_underlying h2, run_underlying h2', Result.andThen_ok]
    rfl
  · cases h

def qMax (x y : AV) (K : AV → Prop) : Prop :=
  match x, y with
  | .val (.int .i64 a), .val (.int .i64 b) => K (.val (.int .i64 (max a b)))
  | _, _ => False
def qMin (x y : AV) (K : AV → Prop) : Prop :=
  match x, y with
  | .val (.int .i64 a), .val (.int .i64 b) => K (.val (.int .i64 (min a b)))
  | _, _ => False

theorem qMax_sound {ts : Array TypeId} {t : TypeId} {x y : AV} {K : AV → Prop} (h : qMax x y K) : ∃ r, K r ∧ ∀ (ρ : Env) (w : World) (v u : Value), VR w ρ v x → VR w ρ u y →
    ∃ z, (Builtin.max_ ts t #[v, u]).run P w = .ok z w ∧ VR w ρ z r := by
  unfold qMax at h
  split at h
  · rename_i a b
    refine ⟨_, h, fun ρ w v u hv hu => ?_⟩
    have := val_inv hv; subst this
    have := val_inv hu; subst this
    refine ⟨_, by rw [run_max_int2], ?_⟩
    rw [show (if b > a then b else a) = max a b by omega]
    exact .pr (.val _)
  · cases h

theorem qMin_sound {ts : Array TypeId} {t : TypeId} {x y : AV} {K : AV → Prop} (h : qMin x y K) : ∃ r, K r ∧ ∀ (ρ : Env) (w : World) (v u : Value), VR w ρ v x → VR w ρ u y →
    ∃ z, (Builtin.min_ ts t #[v, u]).run P w = .ok z w ∧ VR w ρ z r := by
  unfold qMin at h
  split at h
  · rename_i a b
    refine ⟨_, h, fun ρ w v u hv hu => ?_⟩
    have := val_inv hv; subst this
    have := val_inv hu; subst this
    refine ⟨_, by rw [run_min_int2], ?_⟩
    rw [show (if b < a then b else a) = min a b by omega]
    exact .pr (.val _)
  · cases h

/-! ### Aggregates -/

theorem part_sound (hT : TTOk P T) {t : TypeId} (hk : (T t).kd.ok = true) {cs : List AV} {c : Array Value} {off : Nat} {r : AV} (h : rdC (T t) cs off = some r) {ρ : Env} {w : World} (hs : c.size = cs.length)
    (hc : ∀ (i : Nat) v x, c[i]? = some v → cs[i]? = some x → VR w ρ v x) : ∃ z, (part t c off).run P w = .ok z w ∧ VR w ρ z r := by
  unfold rdC at h
  simp only [part, Sem.run_bind, run_agg hT hk, Result.andThen_ok, Sem.run_ite]
  split at h
  · rename_i ha
    rw [if_pos ha]
    split at h
    · cases h
      refine ⟨.agg (c.extract off (off + (T t).size)), by simp only [run_size hT hk, Result.andThen_ok, Sem.run_pure], .agg _ _ (by simp; omega) fun i v x hv hx => ?_⟩
      have hi : i < (T t).size := by
        rcases Nat.lt_or_ge i (T t).size with h' | h'
        · exact h'
        · rw [List.getElem?_eq_none (by simp; omega)] at hx; cases hx
      rw [List.getElem?_take_of_lt hi, List.getElem?_drop] at hx
      rw [Array.getElem?_extract] at hv
      split at hv
      · exact hc _ _ _ hv hx
      · cases hv
    · cases h
  · rename_i ha
    rw [if_neg ha]
    have hlt : off < c.size := by
      rcases Nat.lt_or_ge off cs.length with h' | h'
      · omega
      · rw [List.getElem?_eq_none h'] at h; cases h
    refine ⟨c[off], ?_, hc off _ _ (Array.getElem?_eq_getElem hlt) h⟩
    simp [hlt]

def qPart (T : TypeId → Ty) (xt : TypeId) (x : AV) (f : Nat) (K : AV → Prop) : Prop :=
  match (T xt).kd, x with
  | .struct fs, .agg cs => ∃ p, fs[f]? = some p ∧ (T p.2).kd.ok = true ∧ ∃ r, rdC (T p.2) cs p.1 = some r ∧ K r
  | _, _ => False

theorem qPart_sound (hT : TTOk P T) {xt : TypeId} {x : AV} {f : Nat} {K : AV → Prop} (h : qPart T xt x f K) : ∃ r, K r ∧ ∀ (ρ : Env) (w : World) (v : Value), VR w ρ v x →
    ∃ z, (Instr.field xt v f).run P w = .ok z w ∧ VR w ρ z r := by
  unfold qPart at h
  split at h
  · rename_i fs cs hk
    obtain ⟨p, hp, hok, r, hr, hK⟩ := h
    obtain ⟨i, d, z, h1, h2, h3, _⟩ := hT.ty xt (by rw [hk]; rfl)
    rw [hk] at h3
    obtain ⟨fl, rfl, hfl⟩ := h3
    have hf : ∃ fd, fl[f]? = some fd ∧ (fd.offset, fd.type) = p := by
      rw [← hfl, List.getElem?_map] at hp
      cases hq : fl.toList[f]? with
      | none => simp [hq] at hp
      | some fd => exact ⟨fd, by simpa using hq, by simpa [hq] using hp⟩
    obtain ⟨fd, h4, rfl⟩ := hf
    refine ⟨r, hK, fun ρ w v hv => ?_⟩
    cases hv with
    | pr hp => cases hp
    | agg c _ hs hc =>
      obtain ⟨z, h5, h6⟩ := part_sound hT hok hr hs hc
      exact ⟨z, by simp only [Instr.field, Sem.run_bind, run_underlying h2, Result.andThen_ok, h4, asAgg, Sem.run_pure, h5], h6⟩
  · cases h

def qIndex (T : TypeId → Ty) (xt : TypeId) (x i : AV) (K : AV → Prop) : Prop :=
  match i with
  | .val (.int _ n) => 0 ≤ n ∧
    match (T xt).kd, x with
    | .array len e, .agg cs => (T e).kd.ok = true ∧ n < len ∧ ∃ r, rdC (T e) cs (n.toNat * (T e).size) = some r ∧ K r
    | .str, .val (.string s) => ∃ b, s[n.toNat]? = some b ∧ K (.val (.int .u8 b.toNat))
    | _, _ => False
  | _ => False

theorem qIndex_sound (hT : TTOk P T) {xt : TypeId} {x i : AV} {K : AV → Prop} (h : qIndex T xt x i K) : ∃ r, K r ∧ ∀ (ρ : Env) (w : World) (v vi : Value), VR w ρ v x → VR w ρ vi i →
    ∃ z, (Instr.index xt v vi).run P w = .ok z w ∧ VR w ρ z r := by
  unfold qIndex at h
  split at h
  · rename_i ik n
    obtain ⟨h0, h⟩ := h
    split at h
    · rename_i len e cs hk
      obtain ⟨i, d, z, h1, h2, h3, _⟩ := hT.ty xt (by rw [hk]; rfl)
      rw [hk] at h3; simp only [KdOk] at h3; subst h3
      obtain ⟨hok, hlt, r, hr, hK⟩ := h
      refine ⟨r, hK, fun ρ w v vi hv hi => ?_⟩
      have := val_inv hi; subst this
      cases hv with
      | pr hp => cases hp
      | agg c _ hs hc =>
        obtain ⟨z, h5, h6⟩ := part_sound hT hok hr hs hc
        refine ⟨z, ?_, h6⟩
        simp only [Instr.index, asIntOf, Sem.run_bind, Sem.run_pure, Result.andThen_ok, run_underlying h2]
        rw [if_pos ⟨h0, hlt⟩]
        simp only [Sem.run_bind, run_size hT hok, Result.andThen_ok, h5]
    · rename_i s hk
      obtain ⟨i, d, z, h1, h2, h3, _⟩ := hT.ty xt (by rw [hk]; rfl)
      rw [hk] at h3; simp only [KdOk] at h3; subst h3
      obtain ⟨b, hb, hK⟩ := h
      refine ⟨_, hK, fun ρ w v vi hv hi => ?_⟩
      have := val_inv hi; subst this
      have := val_inv hv; subst this
      refine ⟨_, ?_, .pr (.val _)⟩
      simp only [Instr.index, asIntOf, Sem.run_bind, Sem.run_pure, Result.andThen_ok, run_underlying h2, if_pos h0, hb]
    · cases h
  · cases h

def qExtract (x : AV) (i : Nat) (K : AV → Prop) : Prop :=
  match x with
  | .tup l => ∃ r, l[i]? = some r ∧ K r
  | _ => False

theorem qExtract_sound {x : AV} {i : Nat} {K : AV → Prop} (h : qExtract x i K) : ∃ r, K r ∧ ∀ (ρ : Env) (w : World) (v : Value), VR w ρ v x →
    ∃ z, (Instr.extract v i).run P w = .ok z w ∧ VR w ρ z r := by
  unfold qExtract at h
  split at h
  · rename_i l
    obtain ⟨r, hr, hK⟩ := h
    refine ⟨r, hK, fun ρ w v hv => ?_⟩
    cases hv with
    | pr hp => cases hp
    | tup c _ hs hc =>
      have hlt : i < c.size := by
        rcases Nat.lt_or_ge i l.length with h' | h'
        · omega
        · rw [List.getElem?_eq_none h'] at hr; cases hr
      exact ⟨c[i], by simp [Instr.extract, hlt], hc i _ _ (Array.getElem?_eq_getElem hlt) hr⟩
  · cases h

/-- The cells of a value. -/
def cellsOf : AV → Option (List AV)
  | .agg l => some l
  | .any => none
  | .tup _ => none
  | .val v => if v.oneCell' then some [.val v] else none
  | x => some [x]

theorem cellsOf_sound {x : AV} {l : List AV} (h : cellsOf x = some l) {ρ : Env} {w : World} {v : Value} (hv : VR w ρ v x) :
    v.cells.size = l.length ∧ ∀ (i : Nat) u y, v.cells[i]? = some u → l[i]? = some y → VR w ρ u y := by
  have one : ∀ y, VR w ρ v y → (∀ c, v ≠ .agg c) → l = [y] → v.cells.size = l.length ∧ ∀ (i : Nat) u y, v.cells[i]? = some u → l[i]? = some y → VR w ρ u y := fun y hy hn hl => by
    subst hl
    have hcs : v.cells = #[v] := by cases v <;> first | rfl | exact absurd rfl (hn _)
    rw [hcs]
    refine ⟨rfl, fun i u y' h1 h2 => ?_⟩
    cases i with
    | zero => simp at h1 h2; subst h1; subst h2; exact hy
    | succ i => simp at h1
  cases x <;> simp only [cellsOf] at h
  case any => cases h
  case tup => cases h
  case agg l' =>
    cases h
    cases hv with
    | pr hp => cases hp
    | agg c _ hs hc => exact ⟨hs, hc⟩
  case val v' =>
    split at h
    · cases h
      rename_i ho
      have := val_inv hv; subst this
      exact one _ hv (fun c hc => by subst hc; simp [Value.oneCell'] at ho) rfl
    · cases h
  all_goals
    cases h
    refine one _ hv (fun c hc => ?_) rfl
    subst hc
    cases hv with
    | pr hp => cases hp

def putAt (cells : List AV) (off : Nat) (cs : List AV) : List AV := cells.take off ++ cs ++ cells.drop (off + cs.length)

def fillA (place : Nat → Option (Nat × Nat)) : List AV → List (Nat × AV) → Option (List AV)
  | cells, [] => some cells
  | cells, (i, x) :: rest =>
    match place i, cellsOf x with
    | some (off, size), some cs => if cs.length = size ∧ off + size ≤ cells.length then fillA place (putAt cells off cs) rest else none
    | _, _ => none

theorem foldl_put (l : List Value) (off : Nat) : ∀ (k : Nat) (c : Array Value),
    ((l.zipIdx k).foldl (fun (cs : Array Value) (x : Value × Nat) => cs.setIfInBounds (off + x.2) x.1) c).size = c.size ∧
    ∀ i, off + k + l.length ≤ c.size → ((l.zipIdx k).foldl (fun (cs : Array Value) (x : Value × Nat) => cs.setIfInBounds (off + x.2) x.1) c)[i]? =
      if off + k ≤ i ∧ i < off + k + l.length then l[i - (off + k)]? else c[i]? := by
  induction l with
  | nil => intro k c; simp; intro i _ h1 h2; omega
  | cons v l ih =>
    intro k c
    simp only [List.zipIdx_cons, List.foldl_cons]
    obtain ⟨h1, h2⟩ := ih (k + 1) (c.setIfInBounds (off + k) v)
    refine ⟨by rw [h1]; simp, fun i hi => ?_⟩
    simp only [List.length_cons] at hi
    rw [h2 i (by simp; omega)]
    by_cases hik : i = off + k
    · subst hik
      rw [if_neg (by omega), if_pos (by simp)]
      rw [Array.getElem?_setIfInBounds_self_of_lt (by omega)]
      simp
    · rw [Array.getElem?_setIfInBounds_ne (by omega)]
      by_cases hc : off + (k + 1) ≤ i ∧ i < off + (k + 1) + l.length
      · rw [if_pos hc, if_pos (by simp; omega), show i - (off + k) = (i - (off + (k + 1))) + 1 by omega, List.getElem?_cons_succ]
      · rw [if_neg hc, if_neg (by simp; omega)]

theorem fill_sound (place : Nat → Option (Nat × Nat)) (ρ : Env) (w : World) : ∀ (ps : List (Nat × AV)) (vs : List (Nat × Value)) (cells r : List AV) (c : Array Value), fillA place cells ps = some r →
    vs.length = ps.length → (∀ (i : Nat) v p, vs[i]? = some v → ps[i]? = some p → v.1 = p.1 ∧ VR w ρ v.2 p.2) → c.size = cells.length → (∀ (i : Nat) v x, c[i]? = some v → cells[i]? = some x → VR w ρ v x) →
    ∃ c', Instr.fill place c vs = some c' ∧ c'.size = r.length ∧ ∀ (i : Nat) v x, c'[i]? = some v → r[i]? = some x → VR w ρ v x := by
  intro ps
  induction ps with
  | nil =>
    intro vs cells r c h hl _ hs hc
    simp at hl; subst hl
    simp [fillA] at h; subst h
    exact ⟨c, rfl, hs, hc⟩
  | cons p ps ih =>
    intro vs cells r c h hl hv hs hc
    cases vs with
    | nil => simp at hl
    | cons v vs =>
      obtain ⟨i, x⟩ := p
      obtain ⟨i', u⟩ := v
      obtain ⟨hi, hu⟩ := hv 0 _ _ rfl rfl
      simp only at hi hu
      subst hi
      simp only [fillA] at h
      split at h
      · rename_i off size cs hpl hcs
        split at h
        · rename_i hcond
          obtain ⟨h1, h2⟩ := hcond
          obtain ⟨hus, hur⟩ := cellsOf_sound hcs hu
          simp only [Instr.fill, hpl]
          rw [if_neg (by simp; omega)]
          have hfold := foldl_put u.cells.toList off 0 c
          rw [← Array.foldl_toList]
          rw [Array.toList_zipIdx]
          refine ih vs (putAt cells off cs) r _ h (by simpa using hl) (fun i v p hv' hp => hv (i + 1) v p hv' hp) ?_ fun i v x hv' hx => ?_
          · rw [hfold.1]; simp [putAt]; omega
          · have hsz : off + 0 + u.cells.toList.length ≤ c.size := by simp; omega
            have := hfold.2 i hsz
            simp only [Nat.add_zero] at this
            rw [this] at hv'
            simp only [putAt] at hx
            by_cases hin : off ≤ i ∧ i < off + u.cells.toList.length
            · rw [if_pos hin] at hv'
              simp at hin
              rw [List.append_assoc, List.getElem?_append_right (by simp; omega), List.getElem?_append_left (by simp; omega)] at hx
              refine hur (i - off) v x (by simpa using hv') ?_
              rw [← hx]; congr 1; simp; omega
            · rw [if_neg hin] at hv'
              simp at hin
              refine hc i v x hv' ?_
              rw [← hx]
              by_cases hio : i < off
              · rw [List.append_assoc, List.getElem?_append_left (by simp; omega), List.getElem?_take_of_lt hio]
              · rw [List.getElem?_append_right (by simp; omega), List.getElem?_drop]
                congr 1
                simp
                omega
        · cases h
      · cases h

/-- Built out of parts: a struct, or an array. -/
def qBuild (T : TypeId → Ty) (t : TypeId) (ps : List (Nat × AV)) (K : AV → Prop) : Prop :=
  match (T t).kd with
  | .struct fs => fs.all (fun p => (T p.2).kd.ok) = true ∧ ∃ r, fillA (fun i => (fs[i]?).map fun p => (p.1, (T p.2).size)) ((T t).zero.map AV.val) ps = some r ∧ K (.agg r)
  | .array _ e => (T e).kd.ok = true ∧ ∃ r, fillA (fun i => some (i * (T e).size, (T e).size)) ((T t).zero.map AV.val) ps = some r ∧ K (.agg r)
  | _ => False

theorem zero_sound {w : World} {ρ : Env} {z : Value} {l : List Value} (h : z.cells.toList = l) : z.cells.size = (l.map AV.val).length ∧ ∀ (i : Nat) v x, z.cells[i]? = some v → (l.map AV.val)[i]? = some x → VR w ρ v x := by
  subst h
  refine ⟨by simp, fun i v x hv hx => ?_⟩
  rw [List.getElem?_map] at hx
  have : z.cells.toList[i]? = some v := by simpa using hv
  rw [this] at hx
  simp at hx; subst hx
  exact .pr (.val _)

theorem run_fieldsM (hT : TTOk P T) (w : World) : ∀ (fl : List Field), fl.all (fun f => (T f.type).kd.ok) = true →
    (fl.mapM fun f => Functor.map (Prod.mk f.offset) (sizeOf f.type)).run P w = .ok (fl.map fun f => (f.offset, (T f.type).size)) w := by
  intro fl
  induction fl with
  | nil => intro _; rfl
  | cons f fl ih =>
    intro h
    simp only [List.all_cons, Bool.and_eq_true] at h
    simp only [List.mapM_cons, Sem.run_bind, Sem.run_map, run_size hT h.1, Result.andThen_ok, ih h.2, Sem.run_pure, List.map_cons]

theorem qBuild_sound (hT : TTOk P T) {t : TypeId} {ps : List (Nat × AV)} {K : AV → Prop} (h : qBuild T t ps K) : ∃ r, K r ∧ ∀ (ρ : Env) (w : World) (vs : Array (Nat × Value)), vs.size = ps.length →
    (∀ (i : Nat) v p, vs[i]? = some v → ps[i]? = some p → v.1 = p.1 ∧ VR w ρ v.2 p.2) → ∃ z, (Instr.build t vs).run P w = .ok z w ∧ VR w ρ z r := by
  unfold qBuild at h
  split at h
  · rename_i fs hk
    obtain ⟨hall, r, hr, hK⟩ := h
    obtain ⟨i, d, z, h1, h2, h3, h4, h5, h6, h7, _⟩ := hT.ty t (by rw [hk]; rfl)
    rw [hk] at h3
    obtain ⟨fl, rfl, hfl⟩ := h3
    refine ⟨_, hK, fun ρ w vs hl hv => ?_⟩
    obtain ⟨c1, c2⟩ := zero_sound (w := w) (ρ := ρ) h7
    obtain ⟨c', f1, f2, f3⟩ := fill_sound _ ρ w ps vs.toList _ r z.cells hr (by simpa using hl) (fun i v p a b => hv i v p (by simpa using a) b) c1 c2
    refine ⟨.agg c', ?_, .agg _ _ f2 f3⟩
    have hm := run_fieldsM hT w fl.toList (by
      rw [← hfl, List.all_map] at hall
      exact hall)
    have hpl : (fun x : Nat => ((fl.toList.map fun f => (f.offset, (T f.type).size)).toArray)[x]?) = fun i => (fs[i]?).map fun p => (p.1, (T p.2).size) := by
      funext i
      rw [← hfl]
      simp only [List.getElem?_toArray, List.getElem?_map, Option.map_map]
      rfl
    simp only [Instr.build, Sem.run_bind, zeroValue, typeInfo, run_program, Result.andThen_ok, h1, Sem.run_pure, h6, run_underlying h2, Array.mapM_eq_mapM_toList, bind_pure_comp, Sem.run_map, hm]
    rw [hpl, f1]
    rfl
  · rename_i n e hk
    obtain ⟨hok, r, hr, hK⟩ := h
    obtain ⟨i, d, z, h1, h2, h3, h4, h5, h6, h7, _⟩ := hT.ty t (by rw [hk]; rfl)
    rw [hk] at h3; simp only [KdOk] at h3; subst h3
    refine ⟨_, hK, fun ρ w vs hl hv => ?_⟩
    obtain ⟨c1, c2⟩ := zero_sound (w := w) (ρ := ρ) h7
    obtain ⟨c', f1, f2, f3⟩ := fill_sound _ ρ w ps vs.toList _ r z.cells hr (by simpa using hl) (fun i v p a b => hv i v p (by simpa using a) b) c1 c2
    refine ⟨.agg c', ?_, .agg _ _ f2 f3⟩
    simp only [Instr.build, Sem.run_bind, zeroValue, typeInfo, run_program, Result.andThen_ok, h1, Sem.run_pure, h6, run_underlying h2, run_size hT hok]
    rw [f1]
    rfl
  · cases h

/-! ### All of them -/

/-- Calls that hand back one and the same abstract value, and leave memory alone but for new blocks. -/
def QCall (P : Program) (f : AV) (args : List AV) (r : AV) : Prop :=
  ∀ (ρ : Env) (w : World) (L : List OB) (vf : Value) (vs : Array Value), HR w ρ L → VR w ρ vf f → vs.size = args.length → (∀ (i : Nat) v x, vs[i]? = some v → args[i]? = some x → VR w ρ v x) →
    Out P (fun v w' => VR w' ρ v r ∧ Grow w w') ((do let d ← Deferred.ofValue vf vs; invoke d.target d.args : Sem Next).run P w)

/-- The same, where the own blocks hold these. -/
def QCallL (P : Program) (L : List OB) (f : AV) (args : List AV) (r : AV) : Prop :=
  ∀ (ρ : Env) (w : World) (vf : Value) (vs : Array Value), HR w ρ L → VR w ρ vf f → vs.size = args.length → (∀ (i : Nat) v x, vs[i]? = some v → args[i]? = some x → VR w ρ v x) →
    Out P (fun v w' => VR w' ρ v r ∧ Grow w w') ((do let d ← Deferred.ofValue vf vs; invoke d.target d.args : Sem Next).run P w)
theorem QCall.l {P : Program} {f : AV} {args : List AV} {r : AV} (h : QCall P f args r) (L : List OB) : QCallL P L f args r := fun ρ w vf vs => h ρ w L vf vs

/-- One of two values, as a bool tells. -/
def Pk (t : Bool) (x y : AV) (K : AV → Prop) : Prop := (t = true → K x) ∧ (t = false → K y)
theorem Pk_true (x y : AV) (K : AV → Prop) : Pk true x y K = K x := by simp [Pk]
theorem Pk_false (x y : AV) (K : AV → Prop) : Pk false x y K = K y := by simp [Pk]
theorem pk_dec {p : Prop} [Decidable p] {x y : AV} {K : AV → Prop} (h1 : p → K x) (h2 : ¬ p → K y) : Pk (decide p) x y K := ⟨fun h => h1 (by simpa using h), fun h => h2 (by simpa using h)⟩
def qOp (P : Program) (T : TypeId → Ty) (o : Op) (s : AS) (K : AV → Prop) : Prop :=
  match o with
  | .move x | .assign x => K (s.ev x)
  | .pick c a b =>
    match s.ev c with
    | .val (.bool t) => Pk t (s.ev a) (s.ev b) K
    | _ => False
  | .load t x => qLoad T t s (s.ev x) K
  | .nilCheck x => cellsAt s (s.ev x) fun _ _ => K (s.ev x)
  | .binOp op xt x y _ => qBin T op xt (s.ev x) (s.ev y) K
  | .unOp op _ x => qUn op (s.ev x) K
  | .convert src dst x => qConv T src dst (s.ev x) K
  | .slice t x lo hi mx => qSlice T t (s.ev x) (lo.map s.ev) (hi.map s.ev) (mx.map s.ev) K
  | .fieldAddr t x f => qField T t (s.ev x) f K
  | .field t x f => qPart T t (s.ev x) f K
  | .indexAddr t x i => qIndexAddr T t (s.ev x) (s.ev i) K
  | .index t x i => qIndex T t (s.ev x) (s.ev i) K
  | .extract x i => qExtract (s.ev x) i K
  | .build t ps => qBuild T t (ps.toList.map fun p => (p.1, s.ev p.2)) K
  | .makeFunc (.func f) first caps => first = #[] ∧ K (.fn f (caps.toList.map s.ev))
  | .call { callee := .builtin .len, args, argTypes } =>
    match args.toList, argTypes.toList with
    | [x], [t] => qLen T t (s.ev x) K
    | _, _ => False
  | .call { callee := .builtin .max, args, .. } =>
    match args.toList with
    | [x, y] => qMax (s.ev x) (s.ev y) K
    | _ => False
  | .call { callee := .builtin .min, args, .. } =>
    match args.toList with
    | [x, y] => qMin (s.ev x) (s.ev y) K
    | _ => False
  | .call { callee := .value f, args, .. } => ∃ r, QCallL P s.L (s.ev f) (args.toList.map s.ev) r ∧ K r
  | _ => False

theorem out_value {Φ : Value → World → Prop} {x : Sem Value} {u : Value} {w : World} (h : x.run P w = .ok u w) (hh : Φ u w) : Out P Φ ((do pure (Next.value (← x)) : Sem Next).run P w) := by
  simp only [Sem.run_bind, h, Result.andThen_ok, Sem.run_pure, Out]
  exact hh

theorem qOp_sound (hT : TTOk P T) {o : Oper} {s : AS} {K : AV → Prop} (h : qOp P T o.op s K) : ∃ r, K r ∧ QOK P o s r := by
  unfold qOp at h
  split at h
  case h_1 x ho => exact ⟨_, h, fun ρ a w hw hx => by simp only [execOp, ho]; exact ⟨hx x (by simp [ho, Op.operands]), .refl⟩⟩
  case h_2 x ho => exact ⟨_, h, fun ρ a w hw hx => by simp only [execOp, ho]; exact ⟨hx x (by simp [ho, Op.operands]), .refl⟩⟩
  case h_3 c x y ho =>
    split at h
    · rename_i t hc
      cases t
      · refine ⟨_, h.2 rfl, fun ρ a w hw hx => ?_⟩
        have h1 := hx c (by simp [ho, Op.operands])
        rw [hc] at h1
        have := val_inv h1
        simp only [execOp, ho, this, asBool, Sem.run_bind, Sem.run_pure, Result.andThen_ok]
        show VR _ _ _ _ ∧ Grow _ _
        exact ⟨hx y (by simp [ho, Op.operands]), .refl⟩
      · refine ⟨_, h.1 rfl, fun ρ a w hw hx => ?_⟩
        have h1 := hx c (by simp [ho, Op.operands])
        rw [hc] at h1
        have := val_inv h1
        simp only [execOp, ho, this, asBool, Sem.run_bind, Sem.run_pure, Result.andThen_ok]
        show VR _ _ _ _ ∧ Grow _ _
        exact ⟨hx x (by simp [ho, Op.operands]), .refl⟩
    · cases h
  case h_4 t x ho =>
    obtain ⟨r, hK, hh⟩ := qLoad_sound hT h
    refine ⟨r, hK, fun ρ a w hw hx => ?_⟩
    obtain ⟨u, h1, h2⟩ := hh ρ w _ hw (hx x (by simp [ho, Op.operands]))
    simp only [execOp, ho]
    exact out_value h1 ⟨h2, .refl⟩
  case h_5 x ho =>
    obtain ⟨cs, off, hK, hh⟩ := cellsAt_sound h
    refine ⟨_, hK, fun ρ a w hw hx => ?_⟩
    have hv := hx x (by simp [ho, Op.operands])
    obtain ⟨b, o', he, _⟩ := hh ρ w _ hw hv
    rw [he] at hv
    simp only [execOp, ho, he]
    show VR _ _ _ _ ∧ Grow _ _
    exact ⟨hv, .refl⟩
  case h_6 op xt x y _ ho =>
    obtain ⟨r, hK, hh⟩ := qBin_sound hT h
    refine ⟨r, hK, fun ρ a w hw hx => ?_⟩
    obtain ⟨u, h1, h2⟩ := hh ρ w _ _ x y (hx x (by simp [ho, Op.operands])) (hx y (by simp [ho, Op.operands]))
    simp only [execOp, ho]
    exact out_value h1 ⟨h2, .refl⟩
  case h_7 op t x ho =>
    obtain ⟨r, hK, hh⟩ := qUn_sound (P := P) h
    refine ⟨r, hK, fun ρ a w hw hx => ?_⟩
    obtain ⟨u, h1, h2⟩ := hh ρ w _ (hx x (by simp [ho, Op.operands]))
    simp only [execOp, ho]
    exact out_value h1 ⟨h2, .refl⟩
  case h_8 src dst x ho =>
    obtain ⟨r, hK, hh⟩ := qConv_sound hT h
    refine ⟨r, hK, fun ρ a w hw hx => ?_⟩
    obtain ⟨u, h1, h2⟩ := hh ρ w _ (hx x (by simp [ho, Op.operands]))
    simp only [execOp, ho]
    exact out_value h1 ⟨h2, .refl⟩
  case h_9 t x lo hi mx ho =>
    obtain ⟨r, hK, hh⟩ := qSlice_sound hT h
    refine ⟨r, hK, fun ρ a w hw hx => ?_⟩
    obtain ⟨u, h1, h2⟩ := hh ρ w _ (lo.map a.eval) (hi.map a.eval) (mx.map a.eval) (hx x (by simp [ho, Op.operands]))
      (fun y hy => by
        cases lo with
        | none => cases hy
        | some l => cases hy; exact ⟨_, rfl, hx l (by simp [ho, Op.operands])⟩) (fun hn => by cases lo <;> first | rfl | cases hn)
      (fun y hy => by
        cases hi with
        | none => cases hy
        | some l => cases hy; exact ⟨_, rfl, hx l (by simp [ho, Op.operands])⟩) (fun hn => by cases hi <;> first | rfl | cases hn)
      (fun hn => by cases mx <;> first | rfl | cases hn)
    simp only [execOp, ho]
    exact out_value h1 ⟨h2, .refl⟩
  case h_10 t x f ho =>
    obtain ⟨r, hK, hh⟩ := qField_sound hT h
    refine ⟨r, hK, fun ρ a w hw hx => ?_⟩
    obtain ⟨u, h1, h2⟩ := hh ρ w _ (hx x (by simp [ho, Op.operands]))
    simp only [execOp, ho]
    exact out_value h1 ⟨h2, .refl⟩
  case h_11 t x f ho =>
    obtain ⟨r, hK, hh⟩ := qPart_sound hT h
    refine ⟨r, hK, fun ρ a w hw hx => ?_⟩
    obtain ⟨u, h1, h2⟩ := hh ρ w _ (hx x (by simp [ho, Op.operands]))
    simp only [execOp, ho]
    exact out_value h1 ⟨h2, .refl⟩
  case h_12 t x i ho =>
    obtain ⟨r, hK, hh⟩ := qIndexAddr_sound hT h
    refine ⟨r, hK, fun ρ a w hw hx => ?_⟩
    obtain ⟨u, h1, h2⟩ := hh ρ w _ _ (hx x (by simp [ho, Op.operands])) (hx i (by simp [ho, Op.operands]))
    simp only [execOp, ho]
    exact out_value h1 ⟨h2, .refl⟩
  case h_13 t x i ho =>
    obtain ⟨r, hK, hh⟩ := qIndex_sound hT h
    refine ⟨r, hK, fun ρ a w hw hx => ?_⟩
    obtain ⟨u, h1, h2⟩ := hh ρ w _ _ (hx x (by simp [ho, Op.operands])) (hx i (by simp [ho, Op.operands]))
    simp only [execOp, ho]
    exact out_value h1 ⟨h2, .refl⟩
  case h_14 x i ho =>
    obtain ⟨r, hK, hh⟩ := qExtract_sound (P := P) h
    refine ⟨r, hK, fun ρ a w hw hx => ?_⟩
    obtain ⟨u, h1, h2⟩ := hh ρ w _ (hx x (by simp [ho, Op.operands]))
    simp only [execOp, ho]
    exact out_value h1 ⟨h2, .refl⟩
  case h_15 t ps ho =>
    obtain ⟨r, hK, hh⟩ := qBuild_sound hT h
    refine ⟨r, hK, fun ρ a w hw hx => ?_⟩
    obtain ⟨u, h1, h2⟩ := hh ρ w (ps.map fun (i, x) => (i, a.eval x)) (by simp) (fun i v p hv hp => by
      rw [Array.getElem?_map] at hv
      rw [List.getElem?_map] at hp
      cases hq : ps[i]? with
      | none => simp [hq] at hv
      | some q =>
        have hq' : ps.toList[i]? = some q := by simpa using hq
        simp [hq] at hv
        simp [hq'] at hp
        subst hv; subst hp
        refine ⟨rfl, hx q.2 ?_⟩
        simp only [ho, Op.operands, List.mem_toArray, List.mem_map]
        exact ⟨q, List.mem_of_getElem? hq', rfl⟩)
    simp only [execOp, ho]
    exact out_value h1 ⟨h2, .refl⟩
  case h_16 f first caps ho =>
    obtain ⟨rfl, hK⟩ := h
    refine ⟨_, hK, fun ρ a w hw hx => ?_⟩
    simp only [execOp, ho]
    simp only [Instr.makeFunc, Sem.run_bind, Sem.run_pure, Result.andThen_ok, List.map_toArray, List.map_nil]
    refine And.intro (.fn f (caps.map a.eval) _ (by simp) fun i v x hv hx' => ?_) .refl
    rw [Array.getElem?_map] at hv
    rw [List.getElem?_map] at hx'
    cases hq : caps[i]? with
    | none => simp [hq] at hv
    | some q =>
      have hq' : caps.toList[i]? = some q := by simpa using hq
      simp [hq] at hv
      simp [hq'] at hx'
      subst hv; subst hx'
      refine hx q ?_
      simp only [ho, Op.operands, Array.mem_append]
      exact .inr (Array.mem_of_getElem? hq)
  case h_17 args ts ho =>
    split at h
    · rename_i x t ha ht
      have hargs : args = #[x] := by rw [← Array.toArray_toList (xs := args), ha]
      have hts : ts = #[t] := by rw [← Array.toArray_toList (xs := ts), ht]
      subst hargs; subst hts
      obtain ⟨r, hK, hh⟩ := qLen_sound hT (ty := o.type) h
      refine ⟨r, hK, fun ρ a w hw hx => ?_⟩
      obtain ⟨u, h1, h2⟩ := hh ρ w _ (hx x (by simp [ho, Op.operands, Call.operands]))
      simp only [execOp, ho, resolve, Sem.run_bind, Sem.run_pure, Result.andThen_ok, invoke, builtin, List.map_toArray, List.map_cons, List.map_nil, h1]
      exact And.intro h2 .refl
    · cases h
  case h_18 args ts ho =>
    split at h
    · rename_i x y ha
      have hargs : args = #[x, y] := by rw [← Array.toArray_toList (xs := args), ha]
      subst hargs
      obtain ⟨r, hK, hh⟩ := qMax_sound (P := P) (ts := ts) (t := o.type) h
      refine ⟨r, hK, fun ρ a w hw hx => ?_⟩
      obtain ⟨u, h1, h2⟩ := hh ρ w _ _ (hx x (by simp [ho, Op.operands, Call.operands])) (hx y (by simp [ho, Op.operands, Call.operands]))
      simp only [execOp, ho, resolve, Sem.run_bind, Sem.run_pure, Result.andThen_ok, invoke, builtin, List.map_toArray, List.map_cons, List.map_nil, h1]
      exact And.intro h2 .refl
    · cases h
  case h_19 args ts ho =>
    split at h
    · rename_i x y ha
      have hargs : args = #[x, y] := by rw [← Array.toArray_toList (xs := args), ha]
      subst hargs
      obtain ⟨r, hK, hh⟩ := qMin_sound (P := P) (ts := ts) (t := o.type) h
      refine ⟨r, hK, fun ρ a w hw hx => ?_⟩
      obtain ⟨u, h1, h2⟩ := hh ρ w _ _ (hx x (by simp [ho, Op.operands, Call.operands])) (hx y (by simp [ho, Op.operands, Call.operands]))
      simp only [execOp, ho, resolve, Sem.run_bind, Sem.run_pure, Result.andThen_ok, invoke, builtin, List.map_toArray, List.map_cons, List.map_nil, h1]
      exact And.intro h2 .refl
    · cases h
  case h_20 f args ts ho =>
    obtain ⟨r, hq, hK⟩ := h
    refine ⟨r, hK, fun ρ a w hw hx => ?_⟩
    have := hq ρ w (a.eval f) (args.map a.eval) hw (hx f (by simp [ho, Op.operands, Call.operands])) (by simp) (fun i v x hv hx' => by
      rw [Array.getElem?_map] at hv
      rw [List.getElem?_map] at hx'
      cases hq : args[i]? with
      | none => simp [hq] at hv
      | some q =>
        have hq' : args.toList[i]? = some q := by simpa using hq
        simp [hq] at hv
        simp [hq'] at hx'
        subst hv; subst hx'
        refine hx q ?_
        simp only [ho, Op.operands, Call.operands, Array.mem_append]
        exact .inr (Array.mem_of_getElem? hq))
    simpa only [execOp, ho, resolve] using this
  case h_21 => cases h

end

end Go.Pc

/- The abstract logic, fourth part: operations that make memory, or write into the call's own. -/
namespace Go.Pc
open Go

section
variable {P : Program} {T : TypeId → Ty}

theorem alloc_old (w : World) (b : Obj) (k : Nat) (hk : k < w.heap.size) : (w.alloc b).heap[k]? = w.heap[k]? := by
  simp only [World.alloc, Array.getElem?_push]
  rw [if_neg (by omega)]

theorem Fr.alloc (o : Nat → Prop) (w : World) (b : Obj) : Fr o w (w.alloc b) where
  le := by simp
  same k hk _ := alloc_old w b k hk
  size k c e f h := ⟨c, by rw [alloc_old w b k (Array.getElem?_eq_some_iff.1 h).1]; exact h, rfl⟩
  os := rfl
  out := rfl
  tape := rfl

/-- One more own block, at a place where nothing was. -/
def Env.push (ρ : Env) (l : Option (Nat × Nat)) : Env := { ρ with l := ρ.l ++ [l] }

theorem own_push {ρ : Env} {b : Nat} {l : Option (Nat × Nat)} (h : own (ρ.push l) b) : own ρ b ∨ ∃ base, l = some (b, base) := by
  rcases h with ⟨r, base, hr⟩ | h
  case inr => exact .inl (.inr h)
  simp only [Env.push] at hr
  by_cases hlt : r < ρ.l.length
  · rw [List.getElem?_append_left hlt] at hr
    exact .inl (.l hr)
  · rw [List.getElem?_append_right (by omega)] at hr
    cases hk : r - ρ.l.length with
    | zero => rw [hk] at hr; simp at hr; exact .inr ⟨base, hr⟩
    | succ k => rw [hk] at hr; simp at hr

theorem push_old {ρ : Env} {l : Option (Nat × Nat)} {r : Nat} {x : Option (Nat × Nat)} (h : ρ.l[r]? = some x) : (ρ.push l).l[r]? = some x := by
  simp only [Env.push]
  rw [List.getElem?_append_left]
  · exact h
  · rcases Nat.lt_or_ge r ρ.l.length with h' | h'
    · exact h'
    · simp [List.getElem?_eq_none h'] at h

theorem St.push {fx : List Nat} {ρ : Env} {w w' : World} {l : Option (Nat × Nat)} (hf : Grow w w') (hl : ∀ b base, l = some (b, base) → w.heap.size ≤ b) : St fx ρ w (ρ.push l) w' where
  fr := hf.fr _
  sub b hb ho := by
    rcases own_push ho with h | ⟨base, h⟩
    · exact h
    · have := hl _ _ h; omega
  fix r _ x hx := push_old hx
  x := rfl

/-- The state with one more own block. -/
def AS.push (s : AS) (o : OB) : AS := { s with L := s.L ++ [o] }

theorem AS.push_forest {s : AS} {o : OB} (hof : ∀ S items, o ≠ .forest S items) {r : Nat} {S : Nat → Prop} {items : List (Value × AV)} (h : (s.push o).L[r]? = some (.forest S items)) : s.L[r]? = some (.forest S items) := by
  simp only [AS.push] at h
  by_cases hr : r < s.L.length
  · rw [List.getElem?_append_left hr] at h; exact h
  · rw [List.getElem?_append_right (by omega)] at h
    cases hk : r - s.L.length with
    | zero => rw [hk] at h; simp at h; exact absurd h (hof S items)
    | succ k => rw [hk] at h; simp at h

theorem Rel.push {ρ : Env} {s : AS} {a : Act} {w w' : World} (h : Rel ρ s a w) (hg : Grow w w') (l : Option (Nat × Nat)) (hl : ∀ b base, l = some (b, base) → w.heap.size ≤ b) (o : OB)
    (he : EntR w' (ρ.push l) l o) (hof : ∀ S items, o ≠ .forest S items := by intro S items hh; cases hh) : Rel (ρ.push l) (s.push o) a w' := by
  have hno : ∀ b, b < w.heap.size → no (ρ.push l) b → no ρ b := fun b hb hn => by
    rcases hn with hn | hn
    · rcases own_push hn with h | ⟨base, h⟩
      · exact .inl h
      · have := hl _ _ h; omega
    · exact .inr hn
  have keep : ∀ {v x}, VR w ρ v x → VR w' (ρ.push l) v x := fun hv => hv.keep (hg.fr _) hno (fun r x hx => push_old hx)
  have keepP : ∀ {v x}, PR w (no ρ) v x → PR w' (no (ρ.push l)) v x := fun hv => hv.mono (fun b hb _ => hg.same b hb (fun h => h)) hg.le hno
  refine ⟨h.dfr, h.size, fun i v x h1 h2 => keep (h.tm i v x h1 h2), ⟨by simp [Env.push, AS.push, h.hr.len], fun b hb => Nat.lt_of_lt_of_le (h.hr.xlt b hb) hg.le, fun b hb hx => ?_, fun r r' b base base' h1 h2 => ?_, fun r o' l' h1 h2 => ?_, ⟨fun b hb => Nat.lt_of_lt_of_le (h.hr.t.lt b hb) hg.le, fun b r base ht hl' => ?_, fun r S items b hL hS => ?_, fun r r' S S' items items' b h1 h2 => ?_⟩⟩⟩
  · rcases own_push hb with h' | ⟨base, h'⟩
    · exact h.hr.disj b h' hx
    · have := hl _ _ h'; have := h.hr.xlt b hx; omega
  · have old : ∀ {r base}, (ρ.push l).l[r]? = some (some (b, base)) → (r < ρ.l.length ∧ ρ.l[r]? = some (some (b, base))) ∨ (r = ρ.l.length ∧ l = some (b, base)) := fun {r base} hr => by
      simp only [Env.push] at hr
      by_cases hlt : r < ρ.l.length
      · rw [List.getElem?_append_left hlt] at hr; exact .inl ⟨hlt, hr⟩
      · rw [List.getElem?_append_right (by omega)] at hr
        cases hk : r - ρ.l.length with
        | zero => rw [hk] at hr; simp at hr; exact .inr ⟨by omega, hr⟩
        | succ k => rw [hk] at hr; simp at hr
    rcases old h1 with ⟨_, g1⟩ | ⟨e1, g1⟩ <;> rcases old h2 with ⟨_, g2⟩ | ⟨e2, g2⟩
    · exact h.hr.inj _ _ _ _ _ g1 g2
    · have := own_lt h.hr (.l g1); have := hl _ _ g2; omega
    · have := own_lt h.hr (.l g2); have := hl _ _ g1; omega
    · omega
  · simp only [Env.push] at h2
    simp only [AS.push] at h1
    by_cases hlt : r < ρ.l.length
    · rw [List.getElem?_append_left hlt] at h2
      rw [List.getElem?_append_left (by rw [← h.hr.len]; exact hlt)] at h1
      have he := h.hr.ent r o' l' h1 h2
      cases o' with
      | dead => exact he
      | cells cs =>
        obtain ⟨b, c, e, g1, g2, g3, g4⟩ := he
        exact ⟨b, c, e, g1, by rw [hg.same b (Array.getElem?_eq_some_iff.1 g2).1 (fun h => h)]; exact g2, g3, fun i v x h5 h6 => keep (g4 i v x h5 h6)⟩
      | slab cs =>
        rcases he with ⟨hz1, hz2⟩ | ⟨b, base0, c, e, g1, g2, g3, g4⟩
        · exact .inl ⟨hz1, by simpa using hz2⟩
        exact .inr ⟨b, base0, c, e, g1, by rw [hg.same b (Array.getElem?_eq_some_iff.1 g2).1 (fun h => h)]; exact g2, g3, fun i v x h5 h6 => keep (g4 i v x h5 h6)⟩
      | vec k es =>
        obtain ⟨h0, hl', hd⟩ := he
        refine ⟨h0, hl', ?_⟩
        rcases hd with hd | ⟨b, base, c, e, g1, g2, g3, g4⟩
        · exact .inl hd
        · exact .inr ⟨b, base, c, e, g1, by rw [hg.same b (Array.getElem?_eq_some_iff.1 g2).1 (fun h => h)]; exact g2, g3,
            fun i j ei x h5 h6 => let ⟨v, h7, h8⟩ := g4 i j ei x h5 h6; ⟨v, h7, keepP h8⟩⟩
      | forest S items => exact ⟨he.1, he.2.keep fun b _ hb => hg.same b hb (fun h => h)⟩
    · rw [List.getElem?_append_right (by omega)] at h2
      rw [List.getElem?_append_right (by rw [← h.hr.len]; omega)] at h1
      rw [← h.hr.len] at h1
      cases hk : r - ρ.l.length with
      | zero => rw [hk] at h1 h2; simp at h1 h2; subst h1; subst h2; exact he
      | succ k => rw [hk] at h2; simp at h2
  · have hlt : b < w.heap.size := h.hr.t.lt b ht
    simp only [Env.push] at hl'
    by_cases hr : r < ρ.l.length
    · rw [List.getElem?_append_left hr] at hl'; exact h.hr.t.dl b r base ht hl'
    · rw [List.getElem?_append_right (by omega)] at hl'
      cases hk : r - ρ.l.length with
      | zero => rw [hk] at hl'; simp at hl'; have := hl _ _ hl'; omega
      | succ k => rw [hk] at hl'; simp at hl'
  · exact h.hr.t.sub r S items b (AS.push_forest hof hL) hS
  · exact h.hr.t.dis r r' S S' items items' b (AS.push_forest hof h1) (AS.push_forest hof h2)

theorem push_get (ρ : Env) (l : Option (Nat × Nat)) : (ρ.push l).l[ρ.l.length]? = some l := by simp [Env.push]

/-- A new block of known cells. -/
theorem Rel.newCells {fx : List Nat} {ρ : Env} {s : AS} {a : Act} {w : World} (h : Rel ρ s a w) (c : Array Value) (e : TypeId) (cs : List AV) (hs : c.size = cs.length)
    (hc : ∀ (i : Nat) v x, c[i]? = some v → cs[i]? = some x → VR w ρ v x) :
    ∃ ρ', Rel ρ' (s.push (.cells cs)) a (w.alloc (.cells c e)) ∧ St fx ρ w ρ' (w.alloc (.cells c e)) ∧ VR (w.alloc (.cells c e)) ρ' (.pointer (some ⟨w.heap.size, 0, none⟩)) (.ptr s.L.length 0) := by
  have hl : ∀ b base, some (w.heap.size, 0) = some (b, base) → w.heap.size ≤ b := fun b base h => by cases h; exact Nat.le_refl _
  have hg : Grow w (w.alloc (.cells c e)) := Fr.alloc _ _ _
  refine ⟨ρ.push (some (w.heap.size, 0)), h.push hg _ hl _ ⟨w.heap.size, c, e, rfl, heap_alloc_new w _, hs, fun i v x h1 h2 => ?_⟩, .push hg hl, ?_⟩
  · refine (hc i v x h1 h2).keep (hg.fr _) (fun b hb hn => ?_) (fun r x hx => push_old hx)
    rcases hn with hn | hn
    · rcases own_push hn with h | ⟨base, h⟩
      · exact .inl h
      · have := hl _ _ h; omega
    · exact .inr hn
  · have := VR.ptr (w := w.alloc (.cells c e)) (ρ := ρ.push (some (w.heap.size, 0))) s.L.length 0 w.heap.size 0 (by rw [← h.hr.len]; exact push_get _ _)
    exact this

def sAlloc (T : TypeId → Ty) (e : TypeId) (s : AS) (K : AV → AS → Prop) : Prop :=
  (T e).kd.ok = true ∧ K (.ptr s.L.length 0) (s.push (.cells ((T e).zero.map AV.val)))

theorem sAlloc_sound (hT : TTOk P T) {fx : List Nat} {e : TypeId} {s : AS} {K : AV → AS → Prop} (h : sAlloc T e s K) {ρ : Env} {a : Act} {w : World} (hr : Rel ρ s a w) :
    ∃ v w' r s' ρ', (Instr.alloc e true (.tuple #[])).run P w = .ok v w' ∧ K r s' ∧ Rel ρ' s' a w' ∧ VR w' ρ' v r ∧ St fx ρ w ρ' w' := by
  obtain ⟨hok, hK⟩ := h
  obtain ⟨i, d, z, h1, h2, h3, h4, h5, h6, h7, _⟩ := hT.ty e hok
  obtain ⟨c1, c2⟩ := zero_sound (w := w) (ρ := ρ) h7
  obtain ⟨ρ', g1, g2, g3⟩ := hr.newCells (fx := fx) z.cells e _ c1 c2
  exact ⟨_, _, _, _, ρ', by simp [Instr.alloc, zeroValue, typeInfo, h1, h6, newVar, newRow], hK, g1, g3, g2⟩

def sBox (x : AV) (s : AS) (K : AV → AS → Prop) : Prop :=
  ∃ cs, cellsOf x = some cs ∧ K (.ptr s.L.length 0) (s.push (.cells cs))

theorem sBox_sound {fx : List Nat} {e : TypeId} {x : AV} {s : AS} {K : AV → AS → Prop} (h : sBox x s K) {ρ : Env} {a : Act} {w : World} (hr : Rel ρ s a w) {u : Value} (hu : VR w ρ u x) :
    ∃ v w' r s' ρ', (Instr.box e u).run P w = .ok v w' ∧ K r s' ∧ Rel ρ' s' a w' ∧ VR w' ρ' v r ∧ St fx ρ w ρ' w' := by
  obtain ⟨cs, hcs, hK⟩ := h
  obtain ⟨c1, c2⟩ := cellsOf_sound hcs hu
  obtain ⟨ρ', g1, g2, g3⟩ := hr.newCells (fx := fx) u.cells e _ c1 c2
  exact ⟨_, _, _, _, ρ', by simp [Instr.box, newVar, newRow], hK, g1, g3, g2⟩

/-! ### Pure cells -/

def AV.pure : AV → Bool
  | .any | .val _ | .sl _ => true
  | _ => false

theorem VR.toPR {w : World} {ρ : Env} {v : Value} {x : AV} (h : VR w ρ v x) (hx : x.pure = true) : PR w (no ρ) v x := by
  cases h <;> first | assumption | (simp [AV.pure] at hx)

/-- A cell that can be stored. -/
def AV.one : AV → Bool
  | .any | .agg _ | .tup _ => false
  | .val v => v.oneCell'
  | _ => true

theorem one_sound {w : World} {ρ : Env} {v : Value} {x : AV} (h : VR w ρ v x) (hx : x.one = true) : v.oneCell' = true := by
  cases x <;> simp only [AV.one] at hx <;> first
    | (cases hx; done)
    | (have := val_inv h; subst this; exact hx)
    | (cases h with
       | pr hp => cases hp <;> rfl
       | _ => rfl)

/-! ### Stores -/

theorem heap_setRow_other {w : World} {g k : Nat} {cs : Array Value} (h : k ≠ g) : (w.setRow g cs).heap[k]? = w.heap[k]? := setRow_other w g k cs h

theorem Fr.setRow {ρ : Env} {w : World} {g : Nat} {old cs : Array Value} {t : TypeId} {f : Nat × Nat} (hg : w.heap[g]? = some (.cells old t f)) (ho : own ρ g) (hs : cs.size = old.size) : Fr (own ρ) w (w.setRow g cs) where
  le := by simp
  same b _ hb := heap_setRow_other (fun e => hb (e ▸ ho))
  size b c e f' h := by
    by_cases hbg : b = g
    · subst hbg
      rw [hg] at h; cases h
      exact ⟨cs, setRow_heap w b old cs t f hg, hs⟩
    · exact ⟨c, by rw [heap_setRow_other hbg]; exact h, rfl⟩
  os := rfl
  out := rfl
  tape := rfl

/-- One own block is written anew, at the same size: all else stays. -/
theorem Rel.setRow {fx : List Nat} {ρ : Env} {s : AS} {a : Act} {w : World} (h : Rel ρ s a w) {r g base : Nat} (hρ : ρ.l[r]? = some (some (g, base))) {old cs : Array Value} {t : TypeId}
    (hg : w.heap[g]? = some (.cells old t (0, 0))) (hs : cs.size = old.size) (o : OB) (he : (∀ v x, VR w ρ v x → VR (w.setRow g cs) ρ v x) → EntR (w.setRow g cs) ρ (some (g, base)) o)
    (hof : ∀ S items, o ≠ .forest S items := by intro S items hh; cases hh) :
    Rel ρ { s with L := s.L.set r o } a (w.setRow g cs) ∧ St fx ρ w ρ (w.setRow g cs) := by
  have hf : Fr (own ρ) w (w.setRow g cs) := .setRow hg (.l hρ) hs
  have hfo : ∀ {r' : Nat} {S : Nat → Prop} {items : List (Value × AV)}, (s.L.set r o)[r']? = some (OB.forest S items) → s.L[r']? = some (OB.forest S items) := fun {r' S items} hh => by
    by_cases hr : r = r'
    · subst hr
      simp only [List.getElem?_set] at hh
      simp at hh
      exact absurd hh.2 (hof S items)
    · rwa [List.getElem?_set_ne hr] at hh
  have keep : ∀ v x, VR w ρ v x → VR (w.setRow g cs) ρ v x := fun v x hv => hv.keep hf (fun _ _ h => h) (fun _ _ h => h)
  have keepP : ∀ v x, PR w (no ρ) v x → PR (w.setRow g cs) (no ρ) v x := fun v x hv => hv.mono (fun b hb hn => hf.same b hb fun h => hn (.inl h)) hf.le (fun _ _ h => h)
  refine ⟨⟨h.dfr, h.size, fun i v x h1 h2 => keep _ _ (h.tm i v x h1 h2), ⟨by simpa using h.hr.len, fun b hb => by simpa using h.hr.xlt b hb, h.hr.disj, h.hr.inj, fun r' o' l h1 h2 => ?_, ⟨fun b hb => by simpa using h.hr.t.lt b hb, h.hr.t.dl, fun r S items b hL hS => h.hr.t.sub r S items b (hfo hL) hS, fun r r' S S' items items' b h1 h2 => h.hr.t.dis r r' S S' items items' b (hfo h1) (hfo h2)⟩⟩⟩, ⟨hf, fun _ _ h => h, fun _ _ _ h => h, rfl⟩⟩
  by_cases hr : r = r'
  · subst hr
    simp only [List.getElem?_set] at h1
    rw [hρ] at h2; cases h2
    simp at h1
    obtain ⟨_, rfl⟩ := h1
    exact he keep
  · rw [List.getElem?_set_ne hr] at h1
    have hne : ∀ b base', l = some (b, base') → b ≠ g := fun b base' hl e => by
      subst hl; subst e
      exact hr (h.hr.inj _ _ _ _ _ hρ h2)
    have hent := h.hr.ent r' o' l h1 h2
    cases o' with
    | dead => exact hent
    | cells cs' =>
      obtain ⟨b, c, e, g1, g2, g3, g4⟩ := hent
      exact ⟨b, c, e, g1, by rw [heap_setRow_other (hne _ _ g1)]; exact g2, g3, fun i v x h5 h6 => keep _ _ (g4 i v x h5 h6)⟩
    | slab cs' =>
      rcases hent with ⟨hz1, hz2⟩ | ⟨b, base0, c, e, g1, g2, g3, g4⟩
      · exact .inl ⟨hz1, by simpa using hz2⟩
      exact .inr ⟨b, base0, c, e, g1, by rw [heap_setRow_other (hne _ _ g1)]; exact g2, g3, fun i v x h5 h6 => keep _ _ (g4 i v x h5 h6)⟩
    | vec k es =>
      obtain ⟨h0, hl, hd⟩ := hent
      refine ⟨h0, hl, ?_⟩
      rcases hd with hd | ⟨b, base', c, e, g1, g2, g3, g4⟩
      · exact .inl hd
      · exact .inr ⟨b, base', c, e, g1, by rw [heap_setRow_other (hne _ _ g1)]; exact g2, g3, fun i j ei x h5 h6 => let ⟨v, h7, h8⟩ := g4 i j ei x h5 h6; ⟨v, h7, keepP _ _ h8⟩⟩
    | forest S items => exact ⟨hent.1, hent.2.keep fun b hS _ => heap_setRow_other fun e => h.hr.t.dl b _ _ (h.hr.t.sub _ _ _ b h1 hS) (e ▸ hρ)⟩

theorem putAt_len {cells cs : List AV} {off : Nat} (h : off + cs.length ≤ cells.length) : (putAt cells off cs).length = cells.length := by
  simp [putAt]; omega

theorem putAt_get {cells cs : List AV} {off : Nat} (h : off + cs.length ≤ cells.length) (i : Nat) :
    (putAt cells off cs)[i]? = if off ≤ i ∧ i < off + cs.length then cs[i - off]? else cells[i]? := by
  simp only [putAt]
  by_cases h1 : i < off
  · rw [if_neg (by omega), List.append_assoc, List.getElem?_append_left (by simp; omega), List.getElem?_take_of_lt h1]
  · by_cases h2 : i < off + cs.length
    · rw [if_pos ⟨by omega, h2⟩, List.append_assoc, List.getElem?_append_right (by simp; omega), List.getElem?_append_left (by simp; omega)]
      congr 1; simp; omega
    · rw [if_neg (by omega), List.getElem?_append_right (by simp; omega), List.getElem?_drop]
      congr 1; simp; omega

/-- The cells of a block after a store. -/
def stored (old : Array Value) (off : Nat) (vs : List Value) : Array Value := (old.toList.take off ++ vs ++ old.toList.drop (off + vs.length)).toArray

theorem stored_size {old : Array Value} {off : Nat} {vs : List Value} (h : off + vs.length ≤ old.size) : (stored old off vs).size = old.size := by
  simp [stored]; omega

theorem stored_get {old : Array Value} {off : Nat} {vs : List Value} (h : off + vs.length ≤ old.size) (i : Nat) :
    (stored old off vs)[i]? = if off ≤ i ∧ i < off + vs.length then vs[i - off]? else old[i]? := by
  simp only [stored, List.getElem?_toArray]
  by_cases h1 : i < off
  · rw [if_neg (by omega), List.append_assoc, List.getElem?_append_left (by simp; omega), List.getElem?_take_of_lt h1]
    simp
  · by_cases h2 : i < off + vs.length
    · rw [if_pos ⟨by omega, h2⟩, List.append_assoc, List.getElem?_append_right (by simp; omega), List.getElem?_append_left (by simp; omega)]
      congr 1; simp; omega
    · rw [if_neg (by omega), List.getElem?_append_right (by simp; omega), List.getElem?_drop]
      rw [Array.getElem?_toList]
      congr 1; simp; omega

def sStore (T : TypeId → Ty) (t : TypeId) (x y : AV) (s : AS) (K : AS → Prop) : Prop :=
  (T t).kd.ok = true ∧ ∃ xs, cellsOf y = some xs ∧ xs.length = (T t).size ∧ xs.all AV.one = true ∧
  match x with
  | .ptr r off => ∃ cs, s.L[r]? = some (.cells cs) ∧ off + xs.length ≤ cs.length ∧ K { s with L := s.L.set r (.cells (putAt cs off xs)) }
  | .vp r k i off => (xs.all AV.pure = true ∧ ∃ es, s.L[r]? = some (.vec k es) ∧ ∃ e, es[i]? = some e ∧ off + xs.length ≤ e.length ∧ K { s with L := s.L.set r (.vec k (es.set i (putAt e off xs))) }) ∨
    (k = 1 ∧ off = 0 ∧ ∃ cs x, s.L[r]? = some (.slab cs) ∧ xs = [x] ∧ i < cs.length ∧ K { s with L := s.L.set r (.slab (cs.set i x)) })
  | _ => False

theorem sStore_sound (hT : TTOk P T) {fx : List Nat} {t : TypeId} {x y : AV} {s : AS} {K : AS → Prop} (h : sStore T t x y s K) {ρ : Env} {a : Act} {w : World} (hr : Rel ρ s a w) {v u : Value} (hv : VR w ρ v x) (hu : VR w ρ u y) :
    ∃ w' s', (Instr.storeAt t v u).run P w = .ok () w' ∧ K s' ∧ Rel ρ s' a w' ∧ St fx ρ w ρ w' := by
  obtain ⟨hok, xs, hxs, hlen, hone, h⟩ := h
  obtain ⟨c1, c2⟩ := cellsOf_sound hxs hu
  have hvs : ∀ z ∈ u.cells.toList, z.oneCell' = true := fun z hz => by
    obtain ⟨i, hi, rfl⟩ := List.mem_iff_getElem.1 hz
    have hi' : i < xs.length := by simp at hi; omega
    refine one_sound (c2 i _ xs[i] (by simp at hi; simp [hi]) (List.getElem?_eq_getElem hi')) ?_
    exact (List.all_eq_true.1 hone) _ (List.getElem_mem hi')
  have hsz : (T t).size = u.cells.size := by omega
  have run : ∀ (b off : Nat) (old : Array Value) (e : TypeId), w.heap[b]? = some (.cells old e (0, 0)) → off + u.cells.toList.length ≤ old.size →
      (Instr.storeAt t (.pointer (some ⟨b, off, none⟩)) u).run P w = .ok () (w.setRow b (stored old off u.cells.toList)) := fun b off old e hb hfit => by
    have hst := run_storeCells_at P b off e u.cells.toList 0 old w hb (by simpa using hfit) hvs
    simp only [Nat.add_zero] at hst
    simp only [Instr.storeAt, Instr.sureAddr, Sem.run_bind, Sem.run_pure, Result.andThen_ok, storeVar, run_size hT hok]
    rw [if_neg (by omega), hst]
    rfl
  cases x <;> simp only at h <;> try (cases h; done)
  case ptr r off =>
    obtain ⟨cs, hL, hfit, hK⟩ := h
    cases hv with
    | pr hp => cases hp
    | ptr r off b base hb =>
      obtain ⟨b', c, e, h1, h2, h3, h4⟩ := hr.hr.ent r _ _ hL hb
      cases h1
      rw [Nat.zero_add]
      have hfit' : off + u.cells.toList.length ≤ c.size := by simp; omega
      obtain ⟨g1, g2⟩ := hr.setRow (fx := fx) hb h2 (stored_size hfit') (.cells (putAt cs off xs)) fun keep =>
        ⟨b, _, e, rfl, setRow_heap w b c _ e _ h2, by rw [stored_size hfit', putAt_len hfit]; exact h3, fun i v x h5 h6 => by
          rw [stored_get hfit'] at h5
          rw [putAt_get hfit] at h6
          simp only [Array.length_toList, c1] at h5
          split at h5
          · rename_i hi
            rw [if_pos hi] at h6
            exact keep _ _ (c2 _ _ _ (by simpa using h5) h6)
          · rename_i hi
            rw [if_neg hi] at h6
            exact keep _ _ (h4 _ _ _ h5 h6)⟩
      exact ⟨_, _, run _ _ _ _ h2 hfit', hK, g1, g2⟩
  case vp r k i off =>
    rcases h with ⟨hpure, es, hL, e, he, hfit, hK⟩ | ⟨rfl, rfl, cs, x, hL, rfl, hi, hK⟩
    rotate_left
    · cases hv with
      | pr hp => cases hp
      | vp r k i off b base hb =>
        rcases hr.hr.ent r _ _ hL hb with ⟨hz, _⟩ | ⟨b', base', c, ty, h1, h2, h3, h4⟩
        · cases hz
        · cases h1
          have hu1 : u.cells.toList.length = 1 := by simpa using c1
          have hfit' : base + i * 1 + 0 + u.cells.toList.length ≤ c.size := by omega
          obtain ⟨g1, g2⟩ := hr.setRow (fx := fx) hb h2 (stored_size hfit') (.slab (cs.set i x)) fun keep => by
            refine .inr ⟨b, base, _, ty, rfl, setRow_heap w b c _ ty _ h2, by rw [stored_size hfit']; simpa using h3, fun j v y h5 h6 => ?_⟩
            rw [stored_get hfit', hu1] at h5
            by_cases hij : i = j
            · subst hij
              rw [List.getElem?_set, if_pos rfl, if_pos hi] at h6
              cases h6
              rw [if_pos (by omega), show base + i - (base + i * 1 + 0) = 0 by omega] at h5
              exact keep _ _ (c2 0 _ _ (by simpa using h5) rfl)
            · rw [List.getElem?_set_ne hij] at h6
              rw [if_neg (by omega)] at h5
              exact keep _ _ (h4 j _ _ h5 h6)
          exact ⟨_, _, run _ _ _ _ h2 hfit', hK, g1, g2⟩
    cases hv with
    | pr hp => cases hp
    | vp r k i off b base hb =>
      obtain ⟨h0, hl, h | ⟨b', base', c, ty, h1, h2, h3, h4⟩⟩ := hr.hr.ent r _ _ hL hb
      · cases h.1
      · cases h1
        have hek := hl i e he
        have hi : i < es.length := by
          rcases Nat.lt_or_ge i es.length with h' | h'
          · exact h'
          · simp [List.getElem?_eq_none h'] at he
        have hmul : i * k + k ≤ es.length * k := by rw [← Nat.succ_mul]; exact Nat.mul_le_mul_right k hi
        have hfit' : base + i * k + off + u.cells.toList.length ≤ c.size := by simp; omega
        obtain ⟨g1, g2⟩ := hr.setRow (fx := fx) hb h2 (stored_size hfit') (.vec k (es.set i (putAt e off xs))) fun keep => by
          refine ⟨h0, fun i' e' he' => ?_, .inr ⟨b, base, _, ty, rfl, setRow_heap w b c _ ty _ h2, by rw [stored_size hfit']; simpa using h3, fun i' j ei x h5 h6 => ?_⟩⟩
          · by_cases hii : i = i'
            · subst hii
              simp only [List.getElem?_set] at he'
              simp [hi] at he'
              subst he'
              rw [putAt_len hfit]; exact hek
            · rw [List.getElem?_set_ne hii] at he'
              exact hl _ _ he'
          · rw [stored_get hfit']
            simp only [Array.length_toList, c1]
            by_cases hii : i = i'
            · subst hii
              simp only [List.getElem?_set] at h5
              simp [hi] at h5
              subst h5
              rw [putAt_get hfit] at h6
              by_cases hin : off ≤ j ∧ j < off + xs.length
              · rw [if_pos hin] at h6
                rw [if_pos (by omega)]
                have hjl : j - off < u.cells.size := by omega
                refine ⟨u.cells[j - off], ?_, ?_⟩
                · rw [show base + i * k + j - (base + i * k + off) = j - off by omega]
                  simp [hjl]
                · have hx := c2 (j - off) _ _ (Array.getElem?_eq_getElem hjl) h6
                  exact (keep _ _ hx).toPR ((List.all_eq_true.1 hpure) _ (List.mem_of_getElem? h6))
              · rw [if_neg hin] at h6
                rw [if_neg (by omega)]
                obtain ⟨v, h7, h8⟩ := h4 i j e x he h6
                refine ⟨v, h7, ?_⟩
                have := keep _ _ (.pr h8)
                cases this with
                | pr hp => exact hp
                | _ => cases h8
            · rw [List.getElem?_set_ne hii] at h5
              obtain ⟨v, h7, h8⟩ := h4 i' j ei x h5 h6
              have hjk : j < k := by
                have := hl _ _ h5
                rcases Nat.lt_or_ge j ei.length with h' | h'
                · omega
                · simp [List.getElem?_eq_none h'] at h6
              have hout : ¬ (base + i * k + off ≤ base + i' * k + j ∧ base + i' * k + j < base + i * k + off + xs.length) := by
                rcases Nat.lt_or_gt_of_ne hii with hlt | hgt
                · have : i * k + k ≤ i' * k := by rw [← Nat.succ_mul]; exact Nat.mul_le_mul_right k hlt
                  omega
                · have : i' * k + k ≤ i * k := by rw [← Nat.succ_mul]; exact Nat.mul_le_mul_right k hgt
                  omega
              rw [if_neg hout]
              refine ⟨v, h7, ?_⟩
              have := keep _ _ (.pr h8)
              cases this with
              | pr hp => exact hp
              | _ => cases h8
        exact ⟨_, _, run _ _ _ _ h2 hfit', hK, g1, g2⟩

/-! ### Rows of one's own: made, built, appended to -/

/-- A row of cells in a block, as elements of k cells. -/
structure RowIs (w : World) (ρ : Env) (c : Array Value) (base k : Nat) (es : List (List AV)) : Prop where
  fits : base + es.length * k ≤ c.size
  get : ∀ (i j : Nat) ei x, es[i]? = some ei → ei[j]? = some x → ∃ v, c[base + i * k + j]? = some v ∧ PR w (no ρ) v x

/-- A new own row. -/
theorem Rel.newVec {fx : List Nat} {ρ : Env} {s : AS} {a : Act} {w w0 : World} (h : Rel ρ s a w0) (hg0 : Grow w0 w) (hsz : w.heap.size = w0.heap.size) (c : Array Value) (e : TypeId) (k n cp : Nat) (es : List (List AV)) (hk : 0 < k) (hl : ∀ (i : Nat) e, es[i]? = some e → e.length = k)
    (_hn : es.length = n) (hcp : n ≤ cp) (hcs : cp * k ≤ c.size) (hr : RowIs w ρ c 0 k es) :
    ∃ ρ', Rel ρ' (s.push (.vec k es)) a (w.alloc (.cells c e)) ∧ St fx ρ w0 ρ' (w.alloc (.cells c e)) ∧ VR (w.alloc (.cells c e)) ρ' (.slice (some ⟨w.heap.size, 0, none⟩) n cp) (.os s.L.length k 0 n) := by
  have hlb : ∀ b base, some (w.heap.size, 0) = some (b, base) → w.heap.size ≤ b := fun b base h => by cases h; exact Nat.le_refl _
  have hlb0 : ∀ b base, some (w.heap.size, 0) = some (b, base) → w0.heap.size ≤ b := fun b base h => by cases h; omega
  have hg1 : Grow w (w.alloc (.cells c e)) := Fr.alloc _ _ _
  have hg : Grow w0 (w.alloc (.cells c e)) := hg0.trans hg1 (fun _ h => h.elim)
  have keepP : ∀ {v x}, PR w (no ρ) v x → PR (w.alloc (.cells c e)) (no (ρ.push (some (w.heap.size, 0)))) v x := fun hv => hv.mono (fun b hb _ => hg1.same b hb (fun h => h)) hg1.le fun b hb hn => by
    rcases hn with hn | hn
    · rcases own_push hn with h | ⟨base, h⟩
      · exact .inl h
      · have := hlb _ _ h; omega
    · exact .inr hn
  refine ⟨ρ.push (some (w.heap.size, 0)), h.push hg _ hlb0 _ ⟨hk, hl, .inr ⟨w.heap.size, 0, c, e, rfl, heap_alloc_new w _, by have := hr.fits; omega, fun i j ei x h1 h2 => ?_⟩⟩, .push hg hlb0, ?_⟩
  · obtain ⟨v, h3, h4⟩ := hr.get i j ei x h1 h2
    exact ⟨v, h3, keepP h4⟩
  · have := VR.os (w := w.alloc (.cells c e)) (ρ := ρ.push (some (w.heap.size, 0))) s.L.length k 0 n cp w.heap.size 0 c e (0, 0) (by rw [← h.hr.len]; exact push_get _ _) hcp (heap_alloc_new w _) (by simpa using hcs)
    simpa using this

/-- make([]T, n) -/
def sMake (T : TypeId → Ty) (t : TypeId) (x y : AV) (s : AS) (K : AV → AS → Prop) : Prop :=
  match (T t).kd with
  | .slice e => (T e).kd.ok = true ∧ 0 < (T e).size ∧
    match x, y with
    | .val (.int _ n), .val (.int _ m) => n = m ∧ 0 ≤ n ∧ (T e).bytes * n.toNat ≤ 281474976710656 ∧ n.toNat ≤ 9223372036854775807 ∧
      K (.os s.L.length (T e).size 0 n.toNat) (s.push (.vec (T e).size (List.replicate n.toNat ((T e).zero.map AV.val))))
    | _, _ => False
  | _ => False

theorem made_get (z : Array Value) (n k i j : Nat) (hk : z.size = k) (hi : i < n) (hj : j < k) : (madeCells z (n * k))[i * k + j]? = some z[j]! := by
  have hlt : i * k + j < n * k := by
    have : i * k + k ≤ n * k := by rw [← Nat.succ_mul]; exact Nat.mul_le_mul_right k hi
    omega
  simp only [madeCells, hk]
  rw [Array.getElem?_map, Array.getElem?_range, if_pos hlt]
  simp only [Option.map_some]
  rw [Nat.add_comm, Nat.add_mul_mod_self_right, Nat.mod_eq_of_lt hj]

theorem zeroRow {w : World} {ρ : Env} {z : Value} {l : List Value} {k : Nat} (hz : z.cells.toList = l) (hk : l.length = k) (n : Nat) : RowIs w ρ (madeCells z.cells (n * k)) 0 k (List.replicate n (l.map AV.val)) where
  fits := by simp [size_madeCells]
  get i j ei x h1 h2 := by
    rw [List.getElem?_replicate] at h1
    split at h1
    · rename_i hi
      cases h1
      rw [List.getElem?_map] at h2
      cases hj : l[j]? with
      | none => simp [hj] at h2
      | some v =>
        simp [hj] at h2; subst h2
        have hjl : j < l.length := by
          rcases Nat.lt_or_ge j l.length with h' | h'
          · exact h'
          · simp [List.getElem?_eq_none h'] at hj
        have hzs : z.cells.size = k := by rw [← hk, ← hz]; simp
        refine ⟨v, ?_, .val v⟩
        rw [Nat.zero_add, made_get _ _ _ _ _ hzs hi (by omega)]
        congr 1
        have : z.cells[j]? = some v := by rw [← hj, ← hz]; simp
        rw [getElem!_def, this]
    · cases h1

theorem sMake_sound (hT : TTOk P T) {fx : List Nat} {t : TypeId} {x y : AV} {s : AS} {K : AV → AS → Prop} (h : sMake T t x y s K) {ρ : Env} {a : Act} {w : World} (hr : Rel ρ s a w) {u u' : Value} (hu : VR w ρ u x) (hu' : VR w ρ u' y) :
    ∃ v w' r s' ρ', (Instr.makeSlice t u u').run P w = .ok v w' ∧ K r s' ∧ Rel ρ' s' a w' ∧ VR w' ρ' v r ∧ St fx ρ w ρ' w' := by
  unfold sMake at h
  split at h
  · rename_i e hk
    obtain ⟨hok, hpos, h⟩ := h
    obtain ⟨i, d, z, h1, h2, h3, h4, h5, h6, h7, h8⟩ := hT.ty t (by rw [hk]; rfl)
    rw [hk] at h3; simp only [KdOk] at h3; subst h3
    obtain ⟨i', d', z', g1, g2, g3, g4, g5, g6, g7, g8⟩ := hT.ty e hok
    split at h
    · rename_i kl n kc m
      obtain ⟨rfl, hn0, hby, h63, hK⟩ := h
      have := val_inv hu; subst this
      have := val_inv hu'; subst this
      have hby' : (i'.bytes : Int) * n ≤ 281474976710656 := by
        obtain ⟨m, rfl⟩ := Int.eq_ofNat_of_zero_le hn0
        rw [g5]
        rw [Int.toNat_natCast] at hby
        rw [← Int.natCast_mul]
        omega
      have hrun := run_make (P := P) w t e i' z' h2 g1 g6 kl kc n n hn0 (Int.le_refl _) hby' (by omega)
      rw [g4] at hrun
      obtain ⟨ρ', q1, q2, q3⟩ := hr.newVec (fx := fx) (Fr.refl) rfl (madeCells z'.cells (n.toNat * (T e).size)) e (T e).size n.toNat n.toNat (List.replicate n.toNat ((T e).zero.map AV.val)) hpos
        (fun i e' he => by rw [List.getElem?_replicate] at he; split at he <;> cases he; simp [g8]) (by simp) (Nat.le_refl _) (by simp [size_madeCells]) (zeroRow g7 g8 _)
      exact ⟨_, _, _, _, ρ', hrun, hK, q1, q3, q2⟩
    · cases h
  · cases h

/-! ### Composite literals of slices -/

/-- The cells of a literal's elements. -/
def litRow (k : Nat) : List AV → Option (List (List AV))
  | [] => some []
  | x :: l =>
    match cellsOf x, litRow k l with
    | some cs, some r => if cs.length = k ∧ cs.all AV.pure = true then some (cs :: r) else none
    | _, _ => none

/-- The parts of a literal stand in order: 0, 1, 2 .. -/
def inOrd (n : Nat) : List (Nat × AV) → Option (List AV)
  | [] => some []
  | (i, x) :: l => if i = n then (inOrd (n + 1) l).map (x :: ·) else none

theorem litRow_sound {k : Nat} {w : World} {ρ : Env} : ∀ (xs : List AV) (es : List (List AV)) (vs : List Value), litRow k xs = some es → vs.length = xs.length → (∀ (i : Nat) v x, vs[i]? = some v → xs[i]? = some x → VR w ρ v x) →
    es.length = xs.length ∧ (∀ (i : Nat) v e, vs[i]? = some v → es[i]? = some e → e.length = k ∧ v.cells.size = k ∧ ∀ (j : Nat) u y, v.cells[j]? = some u → e[j]? = some y → PR w (no ρ) u y) := by
  intro xs
  induction xs with
  | nil => intro es vs h hl _; simp [litRow] at h; subst h; simp
  | cons x xs ih =>
    intro es vs h hl hv
    cases vs with
    | nil => simp at hl
    | cons v vs =>
      simp only [litRow] at h
      split at h
      · rename_i cs r hcs hr
        split at h
        · rename_i hc
          cases h
          obtain ⟨h1, h2⟩ := ih r vs hr (by simpa using hl) (fun i v x a b => hv (i + 1) v x a b)
          obtain ⟨c1, c2⟩ := cellsOf_sound hcs (hv 0 v x rfl rfl)
          refine ⟨by simp [h1], fun i v' e hv' he => ?_⟩
          cases i with
          | zero =>
            simp at hv' he; subst hv'; subst he
            exact ⟨hc.1, by omega, fun j u y a b => (c2 j u y a b).toPR ((List.all_eq_true.1 hc.2) _ (List.mem_of_getElem? b))⟩
          | succ i => exact h2 i v' e (by simpa using hv') (by simpa using he)
        · cases h
      · cases h

theorem foldl_fill (k : Nat) (_hk : 0 < k) : ∀ (vs : List Value) (n : Nat) (c : Array Value), (∀ v ∈ vs, v.cells.size = k) → (n + vs.length) * k ≤ c.size →
    ∃ c', Instr.fill (fun i => some (i * k, k)) c (vs.zipIdx n |>.map fun p => (p.2, p.1)) = some c' ∧ c'.size = c.size ∧
      ∀ i j, j < k → c'[i * k + j]? = if n ≤ i ∧ i < n + vs.length then (vs[i - n]?.bind fun v => v.cells[j]?) else c[i * k + j]? := by
  intro vs
  induction vs with
  | nil => intro n c _ _; exact ⟨c, rfl, rfl, fun i j hj => by rw [if_neg (by simp)]⟩
  | cons v vs ih =>
    intro n c hv hsz
    have hvk := hv v (by simp)
    simp only [List.length_cons] at hsz
    have h1 : n * k + k ≤ c.size := by
      have : (n + 1) * k ≤ (n + (vs.length + 1)) * k := Nat.mul_le_mul_right k (by omega)
      rw [Nat.succ_mul] at this
      omega
    simp only [List.zipIdx_cons, List.map_cons, Instr.fill]
    rw [if_neg (by rw [hvk]; simp; omega)]
    have hfold := foldl_put v.cells.toList (n * k) 0 c
    rw [← Array.foldl_toList, Array.toList_zipIdx]
    obtain ⟨c', g1, g2, g3⟩ := ih (n + 1) _ (fun v' hv' => hv v' (by simp [hv'])) (by rw [hfold.1]; rw [show n + 1 + vs.length = n + (vs.length + 1) by omega]; exact hsz)
    refine ⟨c', g1, by rw [g2, hfold.1], fun i j hj => ?_⟩
    rw [g3 i j hj]
    have hget := hfold.2 (i * k + j) (by simp; omega)
    simp only [Nat.add_zero, Array.length_toList] at hget
    by_cases hin : i = n
    · subst hin
      rw [if_neg (by omega), if_pos (by simp), hget, if_pos (by omega)]
      simp
    · by_cases hr : n + 1 ≤ i ∧ i < n + 1 + vs.length
      · rw [if_pos hr, if_pos (by simp; omega), show i - n = (i - (n + 1)) + 1 by omega, List.getElem?_cons_succ]
      · rw [if_neg hr, if_neg (by simp; omega), hget, if_neg]
        rintro ⟨p1, p2⟩
        rcases Nat.lt_or_gt_of_ne hin with hlt | hgt
        · have : i * k + k ≤ n * k := by rw [← Nat.succ_mul]; exact Nat.mul_le_mul_right k hlt
          omega
        · have : n * k + k ≤ i * k := by rw [← Nat.succ_mul]; exact Nat.mul_le_mul_right k hgt
          omega

theorem inOrd_sound : ∀ (ps : List (Nat × AV)) (n : Nat) (xs : List AV), inOrd n ps = some xs → ∀ (vs : List (Nat × Value)), vs.length = ps.length → (∀ (i : Nat) v p, vs[i]? = some v → ps[i]? = some p → v.1 = p.1) →
    vs = ((vs.map Prod.snd).zipIdx n).map (fun p => (p.2, p.1)) ∧ ps.map Prod.snd = xs := by
  intro ps
  induction ps with
  | nil => intro n xs h vs hl _; simp [inOrd] at h; subst h; simp at hl; subst hl; simp
  | cons p ps ih =>
    intro n xs h vs hl hv
    obtain ⟨i, x⟩ := p
    cases vs with
    | nil => simp at hl
    | cons v vs =>
      simp only [inOrd] at h
      split at h
      · rename_i hi
        subst hi
        cases hr : inOrd (i + 1) ps with
        | none => simp [hr] at h
        | some r =>
          simp [hr] at h
          subst h
          obtain ⟨h1, h2⟩ := ih (i + 1) r hr vs (by simpa using hl) (fun j v p a b => hv (j + 1) v p a b)
          have h0 := hv 0 v (i, x) rfl rfl
          simp only at h0
          refine ⟨?_, by simp [h2]⟩
          simp only [List.map_cons, List.zipIdx_cons]
          rw [← h1]
          rw [← h0]
      · cases h

def sLit (T : TypeId → Ty) (bo : Bool) (t : TypeId) (n : Nat) (ps : List (Nat × AV)) (s : AS) (K : AV → AS → Prop) : Prop :=
  match (T t).kd with
  | .slice e => (T e).kd.ok = true ∧ 0 < (T e).size ∧ n * (T e).size ≤ 16777216 ∧ ps.length = n ∧ ∃ xs, inOrd 0 ps = some xs ∧ ∃ es, litRow (T e).size xs = some es ∧
    (if bo || n == 0 then K (.os s.L.length (T e).size 0 n) (s.push (.vec (T e).size es)) else K (.sl es) s)
  | _ => False

theorem sLit_sound2 (hT : TTOk P T) {fx : List Nat} {bo : Bool} {t : TypeId} {n : Nat} {ps : List (Nat × AV)} {s : AS} {K : AV → AS → Prop} (h : sLit T bo t n ps s K) {ρ : Env} {a : Act} {w : World} (hr : Rel ρ s a w)
    {vs : Array (Nat × Value)} (hvl : vs.size = ps.length) (hv : ∀ (i : Nat) v p, vs[i]? = some v → ps[i]? = some p → v.1 = p.1 ∧ VR w ρ v.2 p.2) :
    ∃ v w' r s' ρ', (Instr.buildSlice t n vs).run P w = .ok v w' ∧ K r s' ∧ Rel ρ' s' a w' ∧ VR w' ρ' v r ∧ St fx ρ w ρ' w' ∧ (s' = s → ρ' = ρ ∧ Grow w w') := by
  unfold sLit at h
  split at h
  · rename_i e hk
    obtain ⟨hok, hpos, h24, hpn, xs, hxs, es, hes, h⟩ := h
    obtain ⟨i, d, z, h1, h2, h3, h4, h5, h6, h7, h8⟩ := hT.ty t (by rw [hk]; rfl)
    rw [hk] at h3; simp only [KdOk] at h3; subst h3
    obtain ⟨i', d', z', g1, g2, g3, g4, g5, g6, g7, g8⟩ := hT.ty e hok
    generalize hkk : (T e).size = k at *
    obtain ⟨o1, o2⟩ := inOrd_sound ps 0 xs hxs vs.toList (by simpa using hvl) (fun i v p a b => (hv i v p (by simpa using a) b).1)
    have hxl : xs.length = n := by rw [← o2]; simpa using hpn
    have hval : ∀ (i : Nat) v x, (vs.toList.map Prod.snd)[i]? = some v → xs[i]? = some x → VR w ρ v x := fun i v x a b => by
      rw [← o2, List.getElem?_map] at b
      rw [List.getElem?_map] at a
      cases hp : ps[i]? with
      | none => simp [hp] at b
      | some p =>
        cases hq : vs.toList[i]? with
        | none => simp [hq] at a
        | some q =>
          simp [hp] at b; simp [hq] at a
          subst a; subst b
          exact (hv i q p (by simpa using hq) hp).2
    obtain ⟨l1, l2⟩ := litRow_sound xs es (vs.toList.map Prod.snd) hes (by simp; omega) hval
    have hcsz : ∀ v ∈ vs.toList.map Prod.snd, v.cells.size = k := fun v hv' => by
      obtain ⟨i, hi, hiv⟩ := List.mem_iff_getElem.1 hv'
      have hie : i < es.length := by simp at hi; omega
      exact (l2 i v es[i] (by rw [← hiv]; exact List.getElem?_eq_getElem hi) (List.getElem?_eq_getElem hie)).2.1
    obtain ⟨c', f1, f2, f3⟩ := foldl_fill k hpos (vs.toList.map Prod.snd) 0 (madeCells z'.cells (n * k)) hcsz (by simp [size_madeCells]; rw [show vs.size = n by omega]; exact Nat.le_refl _)
    rw [← o1] at f1
    have hzk : z'.cells.size = k := by
      have : z'.cells.toList.length = k := by rw [g7]; exact g8
      simpa using this
    have hrun : (Instr.buildSlice t n vs).run P w = .ok (.slice (some ⟨w.heap.size, 0, none⟩) n n) (w.alloc (.cells c' e)) := by
      have hsz0 : (sizeOf e).run P w = .ok k w := by rw [run_size hT hok, hkk]
      simp only [Instr.buildSlice, Sem.run_bind, run_underlying h2, Result.andThen_ok, hsz0]
      rw [if_neg (by omega)]
      by_cases hz : n * k = 0
      · have e0 : (Array.range (n * k)).map (fun i => (#[] : Array Value)[i % (#[] : Array Value).size]!) = madeCells z'.cells (n * k) := by rw [hz]; simp [madeCells]
        simp only [if_pos hz, Sem.run_pure, Result.andThen_ok, Sem.run_bind]
        rw [e0, f1]
        simp [newRow]
      · simp only [if_neg hz, Sem.run_bind, zeroValue, typeInfo, run_program, Result.andThen_ok, g1, Sem.run_pure, g6]
        have e0 : (Array.range (n * k)).map (fun i => z'.cells[i % z'.cells.size]!) = madeCells z'.cells (n * k) := rfl
        rw [e0, f1]
        simp [newRow]
    have hel : ∀ (i : Nat) e, es[i]? = some e → e.length = k := fun i e' he => by
      have hie : i < (vs.toList.map Prod.snd).length := by
        rcases Nat.lt_or_ge i es.length with h' | h'
        · simp; omega
        · simp [List.getElem?_eq_none h'] at he
      exact (l2 i _ e' (List.getElem?_eq_getElem hie) he).1
    have hrow : RowIs w ρ c' 0 k es := ⟨by rw [f2]; simp [size_madeCells]; rw [show es.length = n by omega]; exact Nat.le_refl _, fun i j ei x a b => by
      have hj : j < k := by
        have := hel _ _ a
        rcases Nat.lt_or_ge j ei.length with h' | h'
        · omega
        · simp [List.getElem?_eq_none h'] at b
      have hie : i < (vs.toList.map Prod.snd).length := by
        rcases Nat.lt_or_ge i es.length with h' | h'
        · simp; omega
        · simp [List.getElem?_eq_none h'] at a
      obtain ⟨q1, q2, q3⟩ := l2 i _ ei (List.getElem?_eq_getElem hie) a
      have hjc : j < ((vs.toList.map Prod.snd)[i]).cells.size := by omega
      refine ⟨((vs.toList.map Prod.snd)[i]).cells[j], ?_, q3 j _ x (Array.getElem?_eq_getElem hjc) b⟩
      rw [Nat.zero_add, f3 i j hj, if_pos ⟨Nat.zero_le _, by omega⟩, Nat.sub_zero, List.getElem?_eq_getElem hie]
      simp⟩
    split at h
    · obtain ⟨ρ', q1, q2, q3⟩ := hr.newVec (fx := fx) Fr.refl rfl c' e k n n es hpos hel (by omega) (Nat.le_refl _) (by rw [f2]; simp [size_madeCells]) hrow
      exact ⟨_, _, _, _, ρ', hrun, h, q1, q3, q2, fun e => by have := congrArg (fun x : AS => x.L.length) e; simp [AS.push] at this⟩
    · rename_i hb
      have hg : Grow w (w.alloc (.cells c' e)) := Fr.alloc _ _ _
      refine ⟨_, _, _, _, ρ, hrun, h, hr.grow hg, ?_, .grow hg, fun _ => ⟨rfl, hg⟩⟩
      have hn0 : 0 < n := by simp at hb; omega
      refine .pr (.sl w.heap.size 0 k n n es (fun i j => c'[i * k + j]?.getD undef) (by omega) hn0 (Nat.le_refl _) hpos (fun hno => ?_) (by simp) hel (fun i j e' x a b => ?_) fun i j e' x a b => ?_)
      · rcases hno with hno | hno
        · have := own_lt hr.hr hno; omega
        · have := hr.hr.xlt _ hno; omega
      · obtain ⟨v, q1, _⟩ := hrow.get i j e' x a b
        rw [Nat.zero_add] at q1
        rw [Nat.zero_add, World.cell?_alloc_new, q1]; rfl
      · obtain ⟨v, q1, q2⟩ := hrow.get i j e' x a b
        rw [Nat.zero_add] at q1
        rw [q1]
        exact q2.mono (fun b hb _ => hg.same b hb (fun h => h)) hg.le (fun _ _ h => h)
  · cases h

theorem sLit_sound (hT : TTOk P T) {fx : List Nat} {bo : Bool} {t : TypeId} {n : Nat} {ps : List (Nat × AV)} {s : AS} {K : AV → AS → Prop} (h : sLit T bo t n ps s K) {ρ : Env} {a : Act} {w : World} (hr : Rel ρ s a w)
    {vs : Array (Nat × Value)} (hvl : vs.size = ps.length) (hv : ∀ (i : Nat) v p, vs[i]? = some v → ps[i]? = some p → v.1 = p.1 ∧ VR w ρ v.2 p.2) :
    ∃ v w' r s' ρ', (Instr.buildSlice t n vs).run P w = .ok v w' ∧ K r s' ∧ Rel ρ' s' a w' ∧ VR w' ρ' v r ∧ St fx ρ w ρ' w' := by
  obtain ⟨v, w', r, s', ρ', h1, h2, h3, h4, h5, _⟩ := sLit_sound2 hT (fx := fx) h hr hvl hv
  exact ⟨v, w', r, s', ρ', h1, h2, h3, h4, h5⟩

end

end Go.Pc
