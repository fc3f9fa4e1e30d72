/- The abstract logic, first part: abstract values, what it means that a value of the model reads as one in a world, and that this is kept when a world grows. -/
import Derived.WalkKit
import Derived.StillTail
set_option linter.unusedSimpArgs false
set_option linter.unusedVariables false
namespace Go.Pc
open Go

/-- A rule in this dress is not taken for a definitional one: proofs by it have terms. -/
theorem nrf.{u} {α : Sort u} {a b : α} (h : a = b) : a = b := by cases h; rfl

/-- Abstract values: 'any' (nothing is known), 'val' (this very value), aggregates, tuples, immutable slices by value ('sl': the elements, each a list of cells), pointers into immutable memory ('ip'), pointers into own blocks ('ptr', 'vp'), own slices ('os'), functions. -/
inductive AV where
  | any
  | val (v : Value)
  | agg (l : List AV)
  | tup (l : List AV)
  | sl (es : List (List AV))
  | ip (cs : List AV)
  | ptr (r off : Nat)
  | vp (r k i off : Nat)
  | os (r k off n : Nat)
  | fn (f : FuncId) (caps : List AV)
  deriving Inhabited

/-- An own block: gone, a row of known cells, a growing row of elements of k cells each, or values with all their memory, each in blocks of its own. -/
inductive OB where
  | dead
  | cells (cs : List AV)
  | vec (k : Nat) (es : List (List AV))
  | forest (S : Nat → Prop) (items : List (Value × AV))
  deriving Inhabited

/-- Where the own blocks lie; and which further blocks (the callers' own) nothing that is immutable may lie in. -/
structure Env where
  l : List (Option (Nat × Nat))
  X : Nat → Prop
  T : Nat → Prop := fun _ => False

def ownl (ρ : Env) (b : Nat) : Prop := ∃ (r base : Nat), ρ.l[r]? = some (some (b, base))
def own (ρ : Env) (b : Nat) : Prop := ownl ρ b ∨ ρ.T b
theorem own.l {ρ : Env} {b r base : Nat} (h : ρ.l[r]? = some (some (b, base))) : own ρ b := .inl ⟨r, base, h⟩

def no (ρ : Env) (b : Nat) : Prop := own ρ b ∨ ρ.X b

/-- A value reads, in a world, as an abstract value without own parts; all its memory lies outside of the own blocks. -/
inductive PR (w : World) (own : Nat → Prop) : Value → AV → Prop
  | any (v) : PR w own v .any
  | val (v) : PR w own v (.val v)
  | slnil (a c) : PR w own (.slice a 0 c) (.sl [])
  | sl (b o k n c : Nat) (es : List (List AV)) (cv : Nat → Nat → Value) (hn : es.length = n) (h0 : 0 < n) (hc : n ≤ c) (hk : 0 < k) (ho : ¬ own b)
      (hlt : b < w.heap.size) (hl : ∀ (i : Nat) e, es[i]? = some e → e.length = k)
      (hcell : ∀ (i j : Nat) e x, es[i]? = some e → e[j]? = some x → w.cell? ⟨b, o + i * k + j, none⟩ = some (cv i j))
      (hread : ∀ (i j : Nat) e x, es[i]? = some e → e[j]? = some x → PR w own (cv i j) x) :
      PR w own (.slice (some ⟨b, o, none⟩) n c) (.sl es)

inductive VR (w : World) (ρ : Env) : Value → AV → Prop
  | pr {v x} (h : PR w (no ρ) v x) : VR w ρ v x
  | agg (c : Array Value) (l : List AV) (hs : c.size = l.length) (h : ∀ (i : Nat) v x, c[i]? = some v → l[i]? = some x → VR w ρ v x) : VR w ρ (.agg c) (.agg l)
  | tup (c : Array Value) (l : List AV) (hs : c.size = l.length) (h : ∀ (i : Nat) v x, c[i]? = some v → l[i]? = some x → VR w ρ v x) : VR w ρ (.tuple c) (.tup l)
  | ip (b o : Nat) (cs : List AV) (cv : Nat → Value) (ho : ¬ no ρ b) (hlt : b < w.heap.size)
      (hcell : ∀ (j : Nat) x, cs[j]? = some x → w.cell? ⟨b, o + j, none⟩ = some (cv j))
      (hread : ∀ (j : Nat) x, cs[j]? = some x → PR w (no ρ) (cv j) x) : VR w ρ (.pointer (some ⟨b, o, none⟩)) (.ip cs)
  | ptr (r off b base : Nat) (h : ρ.l[r]? = some (some (b, base))) : VR w ρ (.pointer (some ⟨b, base + off, none⟩)) (.ptr r off)
  | vp (r k i off b base : Nat) (h : ρ.l[r]? = some (some (b, base))) : VR w ρ (.pointer (some ⟨b, base + i * k + off, none⟩)) (.vp r k i off)
  | osnil (r k : Nat) (h : ρ.l[r]? = some none) : VR w ρ (.slice none 0 0) (.os r k 0 0)
  | osz (r k off : Nat) (a : Option Addr) (b base : Nat) (h : ρ.l[r]? = some (some (b, base))) : VR w ρ (.slice a 0 0) (.os r k off 0)
  | os (r k off n c b base : Nat) (cs : Array Value) (e : TypeId) (fz : Nat × Nat) (h : ρ.l[r]? = some (some (b, base))) (hc : n ≤ c)
      (hb : w.heap[b]? = some (.cells cs e fz)) (hsz : base + (off + c) * k ≤ cs.size) : VR w ρ (.slice (some ⟨b, base + off * k, none⟩) n c) (.os r k off n)
  | fn (f : FuncId) (c : Array Value) (l : List AV) (hs : c.size = l.length) (h : ∀ (i : Nat) v x, c[i]? = some v → l[i]? = some x → VR w ρ v x) :
      VR w ρ (.func (.func f) #[] c) (.fn f l)

/-- The world has grown, and outside of the own blocks nothing that was there has changed. -/
structure Fr (own : Nat → Prop) (w w' : World) : Prop where
  le : w.heap.size ≤ w'.heap.size
  same : ∀ b, b < w.heap.size → ¬ own b → w'.heap[b]? = w.heap[b]?
  size : ∀ (b : Nat) c e f, w.heap[b]? = some (.cells c e f) → ∃ c', w'.heap[b]? = some (.cells c' e f) ∧ c'.size = c.size
  os : w'.os = w.os
  out : w'.output = w.output
  tape : w'.tape = w.tape

theorem Fr.refl {o : Nat → Prop} {w : World} : Fr o w w := ⟨Nat.le_refl _, fun _ _ _ => rfl, fun _ c _ _ h => ⟨c, h, rfl⟩, rfl, rfl, rfl⟩

theorem Fr.trans {o o' : Nat → Prop} {w w1 w2 : World} (h : Fr o w w1) (h' : Fr o' w1 w2) (hs : ∀ b, o' b → o b ∨ w.heap.size ≤ b) : Fr o w w2 where
  le := Nat.le_trans h.le h'.le
  same b hb ho := by
    rw [h'.same b (Nat.lt_of_lt_of_le hb h.le) (fun hh => by rcases hs b hh with h1 | h1; exact ho h1; omega), h.same b hb ho]
  size b c e f hc := by
    obtain ⟨c1, h1, s1⟩ := h.size b c e f hc
    obtain ⟨c2, h2, s2⟩ := h'.size b c1 e f h1
    exact ⟨c2, h2, by omega⟩
  os := h'.os.trans h.os
  out := h'.out.trans h.out
  tape := h'.tape.trans h.tape

theorem cell_same {w w' : World} {b : Nat} (h : w'.heap[b]? = w.heap[b]?) (o : Nat) : w'.cell? ⟨b, o, none⟩ = w.cell? ⟨b, o, none⟩ := by
  simp only [World.cell?, h]

theorem PR.mono {w w' : World} {o o' : Nat → Prop} {v : Value} {x : AV} (h : PR w o v x) (hs : ∀ b, b < w.heap.size → ¬ o b → w'.heap[b]? = w.heap[b]?)
    (hle : w.heap.size ≤ w'.heap.size) (ho : ∀ b, b < w.heap.size → o' b → o b) : PR w' o' v x := by
  induction h with
  | any v => exact .any v
  | val v => exact .val v
  | slnil a c => exact .slnil a c
  | sl b off k n c es cv hn h0 hc hk hown hlt hl hcell _ ih =>
    exact .sl b off k n c es cv hn h0 hc hk (fun hb => hown (ho b hlt hb)) (Nat.lt_of_lt_of_le hlt hle) hl
      (fun i j e x he hx => by rw [cell_same (hs b hlt hown)]; exact hcell i j e x he hx) (fun i j e x he hx => ih i j e x he hx)

mutual
/-- The abstract value with every own part that is not picked forgotten. -/
def AV.filt (p : Nat → Bool) : AV → AV
  | .any => .any
  | .val v => .val v
  | .agg l => .agg (filtL p l)
  | .tup l => .tup (filtL p l)
  | .sl es => .sl es
  | .ip cs => .ip cs
  | .ptr r off => if p r then .ptr r off else .any
  | .vp r k i off => if p r then .vp r k i off else .any
  | .os r k off n => if p r then .os r k off n else .any
  | .fn f l => .fn f (filtL p l)
def filtL (p : Nat → Bool) : List AV → List AV
  | [] => []
  | x :: l => x.filt p :: filtL p l
end

theorem filtL_map (p : Nat → Bool) (l : List AV) : filtL p l = l.map (AV.filt p) := by
  induction l with
  | nil => rfl
  | cons x l ih => simp [filtL, ih]

mutual
/-- Own parts renamed. -/
def AV.ren (σ : Nat → Nat) : AV → AV
  | .any => .any
  | .val v => .val v
  | .agg l => .agg (renL σ l)
  | .tup l => .tup (renL σ l)
  | .sl es => .sl es
  | .ip cs => .ip cs
  | .ptr r off => .ptr (σ r) off
  | .vp r k i off => .vp (σ r) k i off
  | .os r k off n => .os (σ r) k off n
  | .fn f l => .fn f (renL σ l)
def renL (σ : Nat → Nat) : List AV → List AV
  | [] => []
  | x :: l => x.ren σ :: renL σ l
end

theorem renL_map (σ : Nat → Nat) (l : List AV) : renL σ l = l.map (AV.ren σ) := by
  induction l with
  | nil => rfl
  | cons x l ih => simp [renL, ih]

/-- What is read stays so when the world grows, own parts that may have moved apart. -/
theorem VR.mono {w w' : World} {ρ ρ' : Env} {v : Value} {x : AV} (h : VR w ρ v x) (hf : Fr (own ρ) w w')
    (ho : ∀ b, b < w.heap.size → no ρ' b → no ρ b) (p : Nat → Bool) (hp : ∀ (r : Nat) l, p r = true → ρ.l[r]? = some l → ρ'.l[r]? = some l) : VR w' ρ' v (x.filt p) := by
  induction h with
  | pr h =>
    have h' := h.mono (fun b hb hn => hf.same b hb fun h => hn (.inl h)) hf.le ho
    cases h' <;> simp only [AV.filt] <;> first | exact .pr (.any _) | exact .pr (.val _) | exact .pr (.slnil _ _) | (rename_i h0 hc hk ho' hlt hl hcell hread; exact .pr (.sl _ _ _ _ _ _ _ ‹_› h0 hc hk ho' hlt hl hcell hread))
  | agg c l hs _ ih =>
    simp only [AV.filt, filtL_map]
    refine .agg c _ (by simpa using hs) fun i v x hv hx => ?_
    rw [List.getElem?_map] at hx
    cases hl : l[i]? with
    | none => simp [hl] at hx
    | some y => simp [hl] at hx; subst hx; exact ih i v y hv hl
  | tup c l hs _ ih =>
    simp only [AV.filt, filtL_map]
    refine .tup c _ (by simpa using hs) fun i v x hv hx => ?_
    rw [List.getElem?_map] at hx
    cases hl : l[i]? with
    | none => simp [hl] at hx
    | some y => simp [hl] at hx; subst hx; exact ih i v y hv hl
  | ip b o cs cv ho' hlt hcell hread =>
    simp only [AV.filt]
    exact .ip b o cs cv (fun hb => ho' (ho b hlt hb)) (Nat.lt_of_lt_of_le hlt hf.le) (fun j x hx => by rw [cell_same (hf.same b hlt fun h => ho' (.inl h))]; exact hcell j x hx)
      (fun j x hx => (hread j x hx).mono (fun b hb hn => hf.same b hb fun h => hn (.inl h)) hf.le ho)
  | ptr r off b base hr =>
    simp only [AV.filt]; split
    · rename_i hpr; exact .ptr r off b base (hp r _ hpr hr)
    · exact .pr (.any _)
  | vp r k i off b base hr =>
    simp only [AV.filt]; split
    · rename_i hpr; exact .vp r k i off b base (hp r _ hpr hr)
    · exact .pr (.any _)
  | osnil r k hr =>
    simp only [AV.filt]; split
    · rename_i hpr; exact .osnil r k (hp r _ hpr hr)
    · exact .pr (.any _)
  | osz r k off a b base hr =>
    simp only [AV.filt]; split
    · rename_i hpr; exact .osz r k off a b base (hp r _ hpr hr)
    · exact .pr (.any _)
  | os r k off n c b base cs e fz hr hc hb hsz =>
    simp only [AV.filt]; split
    · rename_i hpr
      obtain ⟨cs', h1, h2⟩ := hf.size b cs e fz hb
      exact .os r k off n c b base cs' e fz (hp r _ hpr hr) hc h1 (by omega)
    · exact .pr (.any _)
  | fn f c l hs _ ih =>
    simp only [AV.filt, filtL_map]
    refine .fn f c _ (by simpa using hs) fun i v x hv hx => ?_
    rw [List.getElem?_map] at hx
    cases hl : l[i]? with
    | none => simp [hl] at hx
    | some y => simp [hl] at hx; subst hx; exact ih i v y hv hl

mutual
theorem AV.filt_true : (x : AV) → x.filt (fun _ => true) = x
  | .any | .val _ | .sl _ | .ip _ | .ptr .. | .vp .. | .os .. => by simp [AV.filt]
  | .agg l => by simp [AV.filt, filtL_true l]
  | .tup l => by simp [AV.filt, filtL_true l]
  | .fn f l => by simp [AV.filt, filtL_true l]
theorem filtL_true : (l : List AV) → filtL (fun _ => true) l = l
  | [] => rfl
  | x :: l => by simp [filtL, AV.filt_true x, filtL_true l]
end

/-- The same, nothing forgotten: every own part lies where it lay. -/
theorem VR.keep {w w' : World} {ρ ρ' : Env} {v : Value} {x : AV} (h : VR w ρ v x) (hf : Fr (own ρ) w w')
    (ho : ∀ b, b < w.heap.size → no ρ' b → no ρ b) (hp : ∀ (r : Nat) l, ρ.l[r]? = some l → ρ'.l[r]? = some l) : VR w' ρ' v x := by
  induction h with
  | pr h => exact .pr (h.mono (fun b hb hn => hf.same b hb fun h => hn (.inl h)) hf.le ho)
  | agg c l hs _ ih => exact .agg c l hs ih
  | tup c l hs _ ih => exact .tup c l hs ih
  | ip b o cs cv ho' hlt hcell hread =>
    exact .ip b o cs cv (fun hb => ho' (ho b hlt hb)) (Nat.lt_of_lt_of_le hlt hf.le) (fun j x hx => by rw [cell_same (hf.same b hlt fun h => ho' (.inl h))]; exact hcell j x hx)
      (fun j x hx => (hread j x hx).mono (fun b hb hn => hf.same b hb fun h => hn (.inl h)) hf.le ho)
  | ptr r off b base hr => exact .ptr r off b base (hp _ _ hr)
  | vp r k i off b base hr => exact .vp r k i off b base (hp _ _ hr)
  | osnil r k hr => exact .osnil r k (hp _ _ hr)
  | osz r k off a b base hr => exact .osz r k off a b base (hp _ _ hr)
  | os r k off n c b base cs e fz hr hc hb hsz =>
    obtain ⟨cs', h1, h2⟩ := hf.size b cs e fz hb
    exact .os r k off n c b base cs' e fz (hp _ _ hr) hc h1 (by omega)
  | fn f c l hs _ ih => exact .fn f c l hs ih


/-- Read under other names. -/
theorem VR.ren {w : World} {ρ ρ' : Env} {v : Value} {x : AV} (h : VR w ρ v x) (σ : Nat → Nat) (hσ : ∀ (r : Nat) l, ρ.l[r]? = some l → ρ'.l[σ r]? = some l) (ho : ∀ b, b < w.heap.size → no ρ' b → no ρ b) : VR w ρ' v (x.ren σ) := by
  induction h with
  | pr h =>
    have h' := h.mono (w' := w) (o' := no ρ') (fun _ _ _ => rfl) (Nat.le_refl _) ho
    cases h' <;> simp only [AV.ren] <;> first | exact .pr (.any _) | exact .pr (.val _) | exact .pr (.slnil _ _) | (rename_i h0 hc hk ho' hlt hl hcell hread; exact .pr (.sl _ _ _ _ _ _ _ ‹_› h0 hc hk ho' hlt hl hcell hread))
  | agg c l hs _ ih =>
    simp only [AV.ren, renL_map]
    refine .agg c _ (by simpa using hs) fun i v x hv hx => ?_
    rw [List.getElem?_map] at hx
    cases hl : l[i]? with
    | none => simp [hl] at hx
    | some y => simp [hl] at hx; subst hx; exact ih i v y hv hl
  | tup c l hs _ ih =>
    simp only [AV.ren, renL_map]
    refine .tup c _ (by simpa using hs) fun i v x hv hx => ?_
    rw [List.getElem?_map] at hx
    cases hl : l[i]? with
    | none => simp [hl] at hx
    | some y => simp [hl] at hx; subst hx; exact ih i v y hv hl
  | ip b o cs cv ho' hlt hcell hread =>
    simp only [AV.ren]
    exact .ip b o cs cv (fun hb => ho' (ho b hlt hb)) hlt hcell (fun j x hx => (hread j x hx).mono (fun _ _ _ => rfl) (Nat.le_refl _) ho)
  | ptr r off b base hr => simp only [AV.ren]; exact .ptr _ off b base (hσ _ _ hr)
  | vp r k i off b base hr => simp only [AV.ren]; exact .vp _ k i off b base (hσ _ _ hr)
  | osnil r k hr => simp only [AV.ren]; exact .osnil _ k (hσ _ _ hr)
  | osz r k off a b base hr => simp only [AV.ren]; exact .osz _ k off a b base (hσ _ _ hr)
  | os r k off n c b base cs e fz hr hc hb hsz => simp only [AV.ren]; exact .os _ k off n c b base cs e fz (hσ _ _ hr) hc hb hsz
  | fn f c l hs _ ih =>
    simp only [AV.ren, renL_map]
    refine .fn f c _ (by simpa using hs) fun i v x hv hx => ?_
    rw [List.getElem?_map] at hx
    cases hl : l[i]? with
    | none => simp [hl] at hx
    | some y => simp [hl] at hx; subst hx; exact ih i v y hv hl

theorem renL_get {σ : Nat → Nat} {l : List AV} {i : Nat} {x : AV} (h : l[i]? = some x) : (renL σ l)[i]? = some (x.ren σ) := by
  rw [renL_map, List.getElem?_map, h]; rfl

mutual
/-- The names taken back. -/
theorem VR.unren {w : World} {ρ ρ' : Env} (σ : Nat → Nat) (hσ : ∀ (r : Nat) l, ρ.l[σ r]? = some l → ρ'.l[r]? = some l) (ho : ∀ b, b < w.heap.size → no ρ' b → no ρ b) : ∀ (x : AV) (v : Value), VR w ρ v (x.ren σ) → VR w ρ' v x
  | .any, v, _ => .pr (.any v)
  | .val u, v, h => by
    simp only [AV.ren] at h
    cases h with
    | pr hp => cases hp; exact .pr (.val _)
  | .sl es, v, h => by
    simp only [AV.ren] at h
    cases h with
    | pr hp => exact .pr (hp.mono (fun _ _ _ => rfl) (Nat.le_refl _) ho)
  | .ip cs, v, h => by
    simp only [AV.ren] at h
    cases h with
    | pr hp => cases hp
    | ip b o cs cv ho' hlt hcell hread => exact .ip b o cs cv (fun hb => ho' (ho b hlt hb)) hlt hcell (fun j x hx => (hread j x hx).mono (fun _ _ _ => rfl) (Nat.le_refl _) ho)
  | .ptr r off, v, h => by
    simp only [AV.ren] at h
    cases h with
    | pr hp => cases hp
    | ptr r off b base hr => exact .ptr _ off b base (hσ _ _ hr)
  | .vp r k i off, v, h => by
    simp only [AV.ren] at h
    cases h with
    | pr hp => cases hp
    | vp r k i off b base hr => exact .vp _ k i off b base (hσ _ _ hr)
  | .os r k off n, v, h => by
    simp only [AV.ren] at h
    cases h with
    | pr hp => cases hp
    | osnil r k hr => exact .osnil _ k (hσ _ _ hr)
    | osz r k off a b base hr => exact .osz _ k off a b base (hσ _ _ hr)
    | os r k off n c b base cs e fz hr hc hb hsz => exact .os _ k off n c b base cs e fz (hσ _ _ hr) hc hb hsz
  | .agg l, v, h => by
    simp only [AV.ren] at h
    cases h with
    | pr hp => cases hp
    | agg c _ hs hc => exact .agg c l (by rw [hs, renL_map]; simp) fun i v x hv hx => VR.unrenL σ hσ ho l i x v hx (hc i v _ hv (renL_get hx))
  | .tup l, v, h => by
    simp only [AV.ren] at h
    cases h with
    | pr hp => cases hp
    | tup c _ hs hc => exact .tup c l (by rw [hs, renL_map]; simp) fun i v x hv hx => VR.unrenL σ hσ ho l i x v hx (hc i v _ hv (renL_get hx))
  | .fn f l, v, h => by
    simp only [AV.ren] at h
    cases h with
    | pr hp => cases hp
    | fn f c _ hs hc => exact .fn f c l (by rw [hs, renL_map]; simp) fun i v x hv hx => VR.unrenL σ hσ ho l i x v hx (hc i v _ hv (renL_get hx))
theorem VR.unrenL {w : World} {ρ ρ' : Env} (σ : Nat → Nat) (hσ : ∀ (r : Nat) l, ρ.l[σ r]? = some l → ρ'.l[r]? = some l) (ho : ∀ b, b < w.heap.size → no ρ' b → no ρ b) : ∀ (l : List AV) (i : Nat) (x : AV) (v : Value), l[i]? = some x → VR w ρ v (x.ren σ) → VR w ρ' v x
  | [], i, x, v, h, _ => by simp at h
  | y :: l, 0, x, v, h, hv => by
    simp at h
    subst h
    exact VR.unren σ hσ ho _ v hv
  | y :: l, i + 1, x, v, h, hv => VR.unrenL σ hσ ho l i x v (by simpa using h) hv
end

/-! ### Own blocks, states -/

/-- A value reads as an abstract one, and all its memory lies in blocks of a set, no two parts of it in one. -/
inductive TR (w : World) : (Nat → Prop) → Value → AV → Prop
  | val (S : Nat → Prop) (v : Value) : TR w S v (.val v)
  | nil (S : Nat → Prop) (a : Option Addr) (c : Nat) : TR w S (.slice a 0 c) (.sl [])
  | sl (S : Nat → Prop) (b o k n c : Nat) (es : List (List AV)) (cv : Nat → Nat → Value) (cs : Array Value) (e : TypeId) (F : Nat → Nat → Nat → Prop)
      (hn : es.length = n) (h0 : 0 < n) (hc : n ≤ c) (hk : 0 < k) (hb : S b) (hl : ∀ (i : Nat) e, es[i]? = some e → e.length = k)
      (hh : w.heap[b]? = some (.cells cs e (0, 0))) (hsz : o + c * k ≤ cs.size)
      (hcell : ∀ (i j : Nat) e x, es[i]? = some e → e[j]? = some x → cs[o + i * k + j]? = some (cv i j))
      (hF : ∀ i j y, F i j y → S y ∧ y ≠ b) (hdis : ∀ i j i' j' y, F i j y → F i' j' y → i = i' ∧ j = j')
      (hread : ∀ (i j : Nat) e x, es[i]? = some e → e[j]? = some x → TR w (F i j) (cv i j) x) : TR w S (.slice (some ⟨b, o, none⟩) n c) (.sl es)

theorem TR.keep {w w' : World} {S : Nat → Prop} {v : Value} {x : AV} (h : TR w S v x) (hs : ∀ b, S b → b < w.heap.size → w'.heap[b]? = w.heap[b]?) : TR w' S v x := by
  induction h with
  | val S v => exact .val S v
  | nil S a c => exact .nil S a c
  | sl S b o k n c es cv cs e F hn h0 hc hk hb hl hh hsz hcell hF hdis _ ih =>
    exact .sl S b o k n c es cv cs e F hn h0 hc hk hb hl (by rw [hs b hb (Array.getElem?_eq_some_iff.1 hh).1]; exact hh) hsz hcell hF hdis
      (fun i j e x h1 h2 => ih i j e x h1 h2 fun b hb => hs b (hF i j b hb).1)

theorem TR.sub {w : World} {S S' : Nat → Prop} {v : Value} {x : AV} (h : TR w S v x) (hs : ∀ b, S b → S' b) : TR w S' v x := by
  cases h with
  | val S v => exact .val S' v
  | nil S a c => exact .nil S' a c
  | sl S b o k n c es cv cs e F hn h0 hc hk hb hl hh hsz hcell hF hdis hread =>
    exact .sl S' b o k n c es cv cs e F hn h0 hc hk (hs b hb) hl hh hsz hcell (fun i j x h => ⟨hs x (hF i j x h).1, (hF i j x h).2⟩) hdis hread

/-- What lies in blocks of its own can be read as something that is immutable, where those blocks are not own. -/
theorem TR.pr {w : World} {S : Nat → Prop} {v : Value} {x : AV} (h : TR w S v x) {o : Nat → Prop} (ho : ∀ b, S b → ¬ o b) : PR w o v x := by
  induction h with
  | val S v => exact .val v
  | nil S a c => exact .slnil a c
  | sl S b off k n c es cv cs e F hn h0 hc hk hb hl hh hsz hcell hF hdis hread ih =>
    refine .sl b off k n c es cv hn h0 hc hk (ho b hb) (Array.getElem?_eq_some_iff.1 hh).1 hl (fun i j e' x he hx => ?_) fun i j e' x he hx => ih _ _ _ _ he hx fun b hb => ho b (hF _ _ b hb).1
    simp only [World.cell?, hh]
    rw [hcell i j e' x he hx]
    rfl

/-- Values with their memory, each in blocks of its own. -/
def Forest (w : World) (S : Nat → Prop) (items : List (Value × AV)) : Prop :=
  ∃ F : Nat → Nat → Prop, (∀ m x, F m x → S x) ∧ (∀ m m' x, F m x → F m' x → m = m') ∧ ∀ (m : Nat) v x, items[m]? = some (v, x) → TR w (F m) v x

theorem Forest.keep {w w' : World} {S : Nat → Prop} {items : List (Value × AV)} (h : Forest w S items) (hs : ∀ b, S b → b < w.heap.size → w'.heap[b]? = w.heap[b]?) : Forest w' S items := by
  obtain ⟨F, h1, h2, h3⟩ := h
  exact ⟨F, h1, h2, fun m v x hm => (h3 m v x hm).keep fun b hb => hs b (h1 m b hb)⟩

def EntR (w : World) (ρ : Env) (loc : Option (Nat × Nat)) : OB → Prop
  | .dead => loc = none
  | .cells cs => ∃ b c e, loc = some (b, 0) ∧ w.heap[b]? = some (.cells c e (0, 0)) ∧ c.size = cs.length ∧
      ∀ (i : Nat) v x, c[i]? = some v → cs[i]? = some x → VR w ρ v x
  | .vec k es => 0 < k ∧ (∀ (i : Nat) e, es[i]? = some e → e.length = k) ∧ ((loc = none ∧ es = []) ∨
      ∃ b base c e, loc = some (b, base) ∧ w.heap[b]? = some (.cells c e (0, 0)) ∧ base + es.length * k ≤ c.size ∧
        ∀ (i j : Nat) ei x, es[i]? = some ei → ei[j]? = some x → ∃ v, c[base + i * k + j]? = some v ∧ PR w (no ρ) v x)
  | .forest S items => loc = none ∧ Forest w S items

/-- The blocks of what lies in blocks of its own. -/
structure HT (w : World) (ρ : Env) (L : List OB) : Prop where
  lt : ∀ b, ρ.T b → b < w.heap.size
  dl : ∀ (b r base : Nat), ρ.T b → ρ.l[r]? = some (some (b, base)) → False
  sub : ∀ (r : Nat) S items b, L[r]? = some (.forest S items) → S b → ρ.T b
  dis : ∀ (r r' : Nat) S S' items items' b, L[r]? = some (.forest S items) → L[r']? = some (.forest S' items') → S b → S' b → r = r'

structure HR (w : World) (ρ : Env) (L : List OB) : Prop where
  len : ρ.l.length = L.length
  xlt : ∀ b, ρ.X b → b < w.heap.size
  disj : ∀ b, own ρ b → ¬ ρ.X b
  inj : ∀ (r r' b base base' : Nat), ρ.l[r]? = some (some (b, base)) → ρ.l[r']? = some (some (b, base')) → r = r'
  ent : ∀ (r : Nat) o l, L[r]? = some o → ρ.l[r]? = some l → EntR w ρ l o
  t : HT w ρ L

structure AS where
  tm : List AV
  L : List OB
  deriving Inhabited

def AV.ofV : Value → AV
  | .agg c => .agg (c.toList.map .val)
  | v => .val v

def AS.ev (s : AS) : Operand → AV
  | .tmp t => s.tm.getD t .any
  | .const v => AV.ofV v
  | .global _ => .any
  | .func f => .fn f []

def AS.put (s : AS) (dst : Option Tmp) (x : AV) : AS :=
  match dst with
  | some d => { s with tm := s.tm.set d x }
  | none => s

structure Rel (ρ : Env) (s : AS) (a : Act) (w : World) : Prop where
  dfr : a.defers = []
  size : a.tmps.size = s.tm.length
  tm : ∀ (i : Nat) v x, a.tmps[i]? = some v → s.tm[i]? = some x → VR w ρ v x
  hr : HR w ρ s.L

structure St (fx : List Nat) (ρ : Env) (w : World) (ρ' : Env) (w' : World) : Prop where
  fr : Fr (own ρ) w w'
  sub : ∀ b, b < w.heap.size → own ρ' b → own ρ b
  fix : ∀ r ∈ fx, ∀ x, ρ.l[r]? = some x → ρ'.l[r]? = some x
  x : ρ'.X = ρ.X

theorem St.refl {fx : List Nat} {ρ : Env} {w : World} : St fx ρ w ρ w := ⟨.refl, fun _ _ h => h, fun _ _ _ h => h, rfl⟩

theorem St.trans {fx : List Nat} {ρ ρ1 ρ2 : Env} {w w1 w2 : World} (h : St fx ρ w ρ1 w1) (h' : St fx ρ1 w1 ρ2 w2) : St fx ρ w ρ2 w2 where
  fr := h.fr.trans h'.fr (fun b hb => by
    rcases Nat.lt_or_ge b w.heap.size with hlt | hge
    · exact .inl (h.sub b hlt hb)
    · exact .inr hge)
  sub b hb ho := h.sub b hb (h'.sub b (Nat.lt_of_lt_of_le hb h.fr.le) ho)
  fix r hr x hx := h'.fix r hr x (h.fix r hr x hx)
  x := h'.x.trans h.x

theorem St.no {fx : List Nat} {ρ ρ' : Env} {w w' : World} (h : St fx ρ w ρ' w') : ∀ b, b < w.heap.size → no ρ' b → no ρ b := fun b hb hn => by
  rcases hn with hn | hn
  · exact .inl (h.sub b hb hn)
  · exact .inr (h.x ▸ hn)

theorem own_lt {w : World} {ρ : Env} {L : List OB} (h : HR w ρ L) {b : Nat} (ho : own ρ b) : b < w.heap.size := by
  rcases ho with ⟨r, base, hr⟩ | ho
  case inr => exact h.t.lt b ho
  have hrl : r < ρ.l.length := by
    rcases Nat.lt_or_ge r ρ.l.length with h' | h'
    · exact h'
    · simp [List.getElem?_eq_none h'] at hr
  have hl : L[r]? = some (L[r]'(h.len ▸ hrl)) := List.getElem?_eq_getElem _
  have he := h.ent r _ _ hl hr
  cases hL : L[r]'(h.len ▸ hrl) with
  | dead => rw [hL] at he; cases he
  | cells cs =>
    rw [hL] at he
    obtain ⟨b', c, e, h1, h2, _⟩ := he
    cases h1
    exact (Array.getElem?_eq_some_iff.1 h2).1
  | vec k es =>
    rw [hL] at he
    obtain ⟨_, _, he⟩ := he
    rcases he with ⟨h1, _⟩ | ⟨b', base', c, e, h1, h2, _⟩
    · cases h1
    · cases h1
      exact (Array.getElem?_eq_some_iff.1 h2).1
  | forest S items => rw [hL] at he; cases he.1

/-- A world that has only grown. -/
abbrev Grow (w w' : World) : Prop := Fr (fun _ => False) w w'

theorem Grow.fr {w w' : World} (h : Grow w w') (o : Nat → Prop) : Fr o w w' := ⟨h.le, fun b hb _ => h.same b hb (fun h => h), h.size, h.os, h.out, h.tape⟩

theorem EntR.grow {w w' : World} {ρ : Env} {l : Option (Nat × Nat)} {o : OB} (h : EntR w ρ l o) (hg : Grow w w')
    (hv : ∀ v x, VR w ρ v x → VR w' ρ v x) : EntR w' ρ l o := by
  have hp : ∀ v x, PR w (no ρ) v x → PR w' (no ρ) v x := fun v x h => h.mono (fun b hb _ => hg.same b hb (fun h => h)) hg.le (fun _ _ h => h)
  cases o with
  | dead => exact h
  | cells cs =>
    obtain ⟨b, c, e, h1, h2, h3, h4⟩ := h
    exact ⟨b, c, e, h1, by rw [hg.same b (Array.getElem?_eq_some_iff.1 h2).1 (fun h => h)]; exact h2, h3, fun i v x h5 h6 => hv _ _ (h4 i v x h5 h6)⟩
  | vec k es =>
    obtain ⟨h0, hl, h⟩ := h
    refine ⟨h0, hl, ?_⟩
    rcases h with h | ⟨b, base, c, e, h1, h2, h3, h4⟩
    · exact .inl h
    · exact .inr ⟨b, base, c, e, h1, by rw [hg.same b (Array.getElem?_eq_some_iff.1 h2).1 (fun h => h)]; exact h2, h3,
        fun i j ei x h5 h6 => let ⟨v, h7, h8⟩ := h4 i j ei x h5 h6; ⟨v, h7, hp _ _ h8⟩⟩
  | forest S items => exact ⟨h.1, h.2.keep fun b _ hb => hg.same b hb (fun h => h)⟩

theorem VR.grow {w w' : World} {ρ : Env} {v : Value} {x : AV} (h : VR w ρ v x) (hg : Grow w w') : VR w' ρ v x :=
  h.keep (hg.fr _) (fun _ _ h => h) (fun _ _ h => h)

theorem HR.grow {w w' : World} {ρ : Env} {L : List OB} (h : HR w ρ L) (hg : Grow w w') : HR w' ρ L :=
  ⟨h.len, fun b hb => Nat.lt_of_lt_of_le (h.xlt b hb) hg.le, h.disj, h.inj, fun r o l h1 h2 => (h.ent r o l h1 h2).grow hg fun _ _ hv => hv.grow hg,
    ⟨fun b hb => Nat.lt_of_lt_of_le (h.t.lt b hb) hg.le, h.t.dl, h.t.sub, h.t.dis⟩⟩

theorem Rel.grow {ρ : Env} {s : AS} {a : Act} {w w' : World} (h : Rel ρ s a w) (hg : Grow w w') : Rel ρ s a w' :=
  ⟨h.dfr, h.size, fun i v x h1 h2 => (h.tm i v x h1 h2).grow hg, h.hr.grow hg⟩

theorem St.grow {fx : List Nat} {ρ : Env} {w w' : World} (hg : Grow w w') : St fx ρ w ρ w' := ⟨hg.fr _, fun _ _ h => h, fun _ _ _ h => h, rfl⟩

theorem Grow.drew {w : World} : Grow w w.drew := ⟨Nat.le_refl _, fun _ _ _ => rfl, fun _ c _ _ h => ⟨c, h, rfl⟩, rfl, rfl, rfl⟩

theorem VR.ofV {w : World} {ρ : Env} (v : Value) : VR w ρ v (AV.ofV v) := by
  cases v <;> simp only [AV.ofV] <;> first
    | exact .pr (.val _)
    | (rename_i c
       refine .agg c _ (by simp) fun i v x hv hx => ?_
       rw [List.getElem?_map] at hx
       have : c.toList[i]? = some v := by simpa using hv
       rw [this] at hx
       simp at hx
       subst hx
       exact .pr (.val _))

theorem Rel.ev {ρ : Env} {s : AS} {a : Act} {w : World} (h : Rel ρ s a w) (x : Operand) : VR w ρ (a.eval x) (s.ev x) := by
  cases x with
  | tmp t =>
    simp only [Act.eval, AS.ev]
    rcases Nat.lt_or_ge t s.tm.length with ht | ht
    · have h1 : s.tm[t]? = some s.tm[t] := List.getElem?_eq_getElem ht
      have h2 : a.tmps[t]? = some (a.tmps[t]'(by rw [h.size]; exact ht)) := Array.getElem?_eq_getElem _
      have := h.tm t _ _ h2 h1
      rw [List.getD_eq_getElem?_getD, h1, Array.getD_eq_getD_getElem?, h2]
      exact this
    · rw [List.getD_eq_getElem?_getD, List.getElem?_eq_none ht]
      exact .pr (.any _)
  | const v => exact .ofV v
  | global g => exact .pr (.any _)
  | func f => exact .fn f #[] [] rfl (by simp)

theorem Rel.put {ρ : Env} {s : AS} {a : Act} {w : World} (h : Rel ρ s a w) (dst : Option Tmp) {v : Value} {x : AV} (hv : VR w ρ v x) :
    Rel ρ (s.put dst x) (a.put dst v) w := by
  cases dst with
  | none => exact h
  | some d =>
    refine ⟨h.dfr, by simp [AS.put, Act.put, h.size], fun i u y h1 h2 => ?_, h.hr⟩
    simp only [AS.put, Act.put] at h1 h2
    by_cases hi : d = i
    · subst hi
      rw [List.getElem?_set] at h2
      rw [Array.getElem?_setIfInBounds] at h1
      split at h2 <;> split at h1 <;> simp_all
    · rw [List.getElem?_set_ne hi] at h2
      rw [Array.getElem?_setIfInBounds_ne hi] at h1
      exact h.tm i u y h1 h2

/-- What one operation, once carried out, comes to. -/
def Out (P : Program) (Φ : Value → World → Prop) : Result Next → Prop
  | .ok (.value v) w' => Φ v w'
  | .ok .skip w' => Φ undef w'
  | .ok (.enter f args) w' => Calls P f args w' (fun e w'' => ∃ v, e = .returned v ∧ Φ v w'')
  | _ => False

theorem Out.mono {P : Program} {Φ Ψ : Value → World → Prop} {r : Result Next} (h : Out P Φ r) (hh : ∀ v w, Φ v w → Ψ v w) : Out P Ψ r := by
  cases r with
  | ok n w' =>
    cases n <;> simp only [Out] at h ⊢ <;> first
      | exact hh _ _ h
      | exact h.mono fun e w'' ⟨v, he, hv⟩ => ⟨v, he, hh _ _ hv⟩
  | halt x w' => simp only [Out] at h

theorem wp_of_out {P : Program} {o : Oper} {a : Act} {w : World} {next : Act → World → Prop} {Q : Exit → Act → World → Prop}
    (h : Out P (fun v w' => next (a.put o.dst v) w') ((execOp a.eval o).run P w)) : o.wp P a w next Q := by
  unfold Oper.wp
  generalize (execOp a.eval o).run P w = r at h
  cases r with
  | ok n w' =>
    cases n <;> simp only [Out] at h <;> simp only [Oper.upon]
    case value v => exact h
    case skip => exact h
    case enter f args => exact h.mono fun e w'' ⟨v, he, hv⟩ => by subst he; exact hv
  | halt x w' => simp only [Out] at h

/-- A quiet operation: whatever the world, it yields a value that reads as 'r', and the world has only grown. -/
def QOK (P : Program) (o : Oper) (s : AS) (r : AV) : Prop :=
  ∀ (ρ : Env) (a : Act) (w : World), HR w ρ s.L → (∀ x ∈ o.op.operands, VR w ρ (a.eval x) (s.ev x)) → Out P (fun v w' => VR w' ρ v r ∧ Grow w w') ((execOp a.eval o).run P w)

/-- An operation, with what comes behind it. -/
def AOK (P : Program) (fx : List Nat) (o : Oper) (s : AS) (K : AS → Prop) : Prop :=
  ∀ (ρ : Env) (a : Act) (w : World), Rel ρ s a w → Out P (fun v w' => ∃ s' ρ', K s' ∧ Rel ρ' s' (a.put o.dst v) w' ∧ St fx ρ w ρ' w') ((execOp a.eval o).run P w)

theorem AOK.of_quiet {P : Program} {fx : List Nat} {o : Oper} {s : AS} {K : AS → Prop} {r : AV} (h : QOK P o s r) (hK : K (s.put o.dst r)) : AOK P fx o s K :=
  fun ρ a w hr => (h ρ a w hr.hr (fun x _ => hr.ev x)).mono fun _ _ ⟨hv, hg⟩ => ⟨_, ρ, hK, (hr.grow hg).put o.dst hv, .grow hg⟩

theorem AOK.mono {P : Program} {fx : List Nat} {o : Oper} {s : AS} {K K' : AS → Prop} (h : AOK P fx o s K) (hh : ∀ s, K s → K' s) : AOK P fx o s K' :=
  fun ρ a w hr => (h ρ a w hr).mono fun _ _ ⟨s', ρ', hk, h1, h2⟩ => ⟨s', ρ', hh _ hk, h1, h2⟩

end Go.Pc
