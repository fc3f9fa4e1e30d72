/- The abstract logic, fourteenth part: regions that draw their order, whose quiet operations and new variables float beside a chain of the others. -/
import Derived.Test.YtajkeegikligcaaDoorAlk
set_option linter.unusedSimpArgs false
set_option linter.unusedVariables false
namespace Go.Pc
open Go

section
variable {P : Program} {T : TypeId → Ty} {fx bl : List Nat}

theorem Rel.set {ρ : Env} {s : AS} {a : Act} {w : World} (h : Rel ρ s a w) (d : Tmp) {x : AV} (hx : ∀ v, a.tmps[d]? = some v → VR w ρ v x) : Rel ρ (s.put (some d) x) a w := by
  refine ⟨h.dfr, by simp [AS.put, h.size], fun i u y h1 h2 => ?_, h.hr⟩
  simp only [AS.put] at h2
  by_cases hi : d = i
  · subst hi
    rw [List.getElem?_set] at h2
    split at h2
    · split at h2
      · cases h2; exact hx u h1
      · cases h2
    · exact h.tm d u y h1 h2
  · rw [List.getElem?_set_ne hi] at h2
    exact h.tm i u y h1 h2

/-- A block that nobody saw becomes an own one. -/
theorem Rel.own1 {ρ : Env} {s : AS} {a : Act} {w : World} (h : Rel ρ s a w) {b : Nat} (hX : ρ.X b) {c : Array Value} {e : TypeId} (hb : w.heap[b]? = some (.cells c e (0, 0))) (cs : List AV) (hs : c.size = cs.length)
    (hc : ∀ (i : Nat) v x, c[i]? = some v → cs[i]? = some x → x = .val v) (d : Tmp) (hd : ∀ v, a.tmps[d]? = some v → v = .pointer (some ⟨b, 0, none⟩)) :
    Rel ⟨ρ.l ++ [some (b, 0)], fun y => ρ.X y ∧ y ≠ b, ρ.T⟩ { tm := s.tm.set d (.ptr s.L.length 0), L := s.L ++ [.cells cs] } a w := by
  generalize hρ : (⟨ρ.l ++ [some (b, 0)], fun y => ρ.X y ∧ y ≠ b, ρ.T⟩ : Env) = ρ'
  have el : ρ'.l = ρ.l ++ [some (b, 0)] := by rw [← hρ]
  have eX : ∀ y, ρ'.X y ↔ ρ.X y ∧ y ≠ b := fun y => by rw [← hρ]
  have eT : ρ'.T = ρ.T := by rw [← hρ]
  have hnot : ¬ own ρ b := fun ho => h.hr.disj b ho hX
  have old : ∀ (r : Nat) x, ρ.l[r]? = some x → ρ'.l[r]? = some x := fun r x hx => by
    rw [el, List.getElem?_append_left (List.getElem?_eq_some_iff.1 hx).1]; exact hx
  have inv : ∀ (r : Nat) x, ρ'.l[r]? = some x → (r < ρ.l.length ∧ ρ.l[r]? = some x) ∨ (r = ρ.l.length ∧ x = some (b, 0)) := fun r x hx => by
    rw [el] at hx
    by_cases hlt : r < ρ.l.length
    · rw [List.getElem?_append_left hlt] at hx; exact .inl ⟨hlt, hx⟩
    · rw [List.getElem?_append_right (by omega)] at hx
      cases hk : r - ρ.l.length with
      | zero => rw [hk] at hx; simp at hx; exact .inr ⟨by omega, hx.symm⟩
      | succ k => rw [hk] at hx; simp at hx
  have own' : ∀ y, own ρ' y → own ρ y ∨ y = b := fun y hy => by
    rcases hy with ⟨r, base, hr⟩ | hy
    · rcases inv r _ hr with ⟨_, g⟩ | ⟨_, g⟩
      · exact .inl (.l g)
      · cases g; exact .inr rfl
    · exact .inl (.inr (eT ▸ hy))
  have hno : ∀ y, no ρ' y → no ρ y := fun y hn => by
    rcases hn with hn | hn
    · rcases own' y hn with h1 | h1
      · exact .inl h1
      · subst h1; exact .inr hX
    · exact .inr ((eX y).1 hn).1
  have keep : ∀ {v x}, VR w ρ v x → VR w ρ' v x := fun hv => hv.keep .refl (fun y _ => hno y) old
  have keepP : ∀ {v x}, PR w (no ρ) v x → PR w (no ρ') v x := fun hv => hv.mono (fun _ _ _ => rfl) (Nat.le_refl _) (fun y _ => hno y)
  have hlen := h.hr.len
  have hfo : ∀ {r : Nat} {S : Nat → Prop} {items : List (Value × AV)}, (s.L ++ [OB.cells cs])[r]? = some (OB.forest S items) → s.L[r]? = some (OB.forest S items) := fun {r S items} hh =>
    AS.push_forest (s := s) (o := .cells cs) (fun _ _ e => by cases e) hh
  refine ⟨h.dfr, by simp [h.size], fun i u y h1 h2 => ?_, ⟨by rw [el]; simp [hlen], fun y hy => h.hr.xlt y ((eX y).1 hy).1, fun y hy hx => ?_, fun r r' y base base' h1 h2 => ?_, fun r o l h1 h2 => ?_, ⟨fun y hy => h.hr.t.lt y (eT ▸ hy), fun y r base hy hr => ?_, fun r S items y hr hS => ?_, fun r r' S S' items items' y h1 h2 => h.hr.t.dis r r' S S' items items' y (hfo h1) (hfo h2)⟩⟩⟩
  · simp only at h2
    by_cases hi : d = i
    · subst hi
      rw [List.getElem?_set] at h2
      simp only [if_true] at h2
      split at h2
      · cases h2
        rw [hd u h1]
        exact .ptr _ 0 b 0 (by rw [el, ← hlen, List.getElem?_append_right (Nat.le_refl _), Nat.sub_self]; rfl)
      · cases h2
    · rw [List.getElem?_set_ne hi] at h2
      exact keep (h.tm i u y h1 h2)
  · obtain ⟨hx, hne⟩ := (eX y).1 hx
    rcases own' y hy with h1 | h1
    · exact h.hr.disj y h1 hx
    · exact hne h1
  · rcases inv r _ h1 with ⟨_, g1⟩ | ⟨e1, g1⟩ <;> rcases inv r' _ h2 with ⟨_, g2⟩ | ⟨e2, g2⟩
    · exact h.hr.inj _ _ _ _ _ g1 g2
    · cases g2; exact absurd (.l g1) hnot
    · cases g1; exact absurd (.l g2) hnot
    · omega
  · rcases inv r _ h2 with ⟨hlt, g⟩ | ⟨hr, g⟩
    · rw [List.getElem?_append_left (by rw [← hlen]; exact hlt)] at h1
      have he := h.hr.ent r o l h1 g
      cases o with
      | dead => exact he
      | cells cs =>
        obtain ⟨b, c, e, g1, g2, g3, g4⟩ := he
        exact ⟨b, c, e, g1, g2, g3, fun i v x h5 h6 => keep (g4 i v x h5 h6)⟩
      | slab cs =>
        rcases he with ⟨hz1, hz2⟩ | ⟨b, base0, c, e, g1, g2, g3, g4⟩
        · exact .inl ⟨hz1, by simpa using hz2⟩
        exact .inr ⟨b, base0, c, e, g1, g2, g3, fun i v x h5 h6 => keep (g4 i v x h5 h6)⟩
      | vec k es =>
        obtain ⟨h0, hl', hd⟩ := he
        refine ⟨h0, hl', ?_⟩
        rcases hd with hd | ⟨b, base, c, e, g1, g2, g3, g4⟩
        · exact .inl hd
        · exact .inr ⟨b, base, c, e, g1, g2, g3, fun i j ei x h5 h6 => let ⟨v, h7, h8⟩ := g4 i j ei x h5 h6; ⟨v, h7, keepP h8⟩⟩
      | forest S items => exact he
    · subst g
      rw [hr, hlen, List.getElem?_append_right (Nat.le_refl _), Nat.sub_self] at h1
      cases h1
      exact ⟨b, c, e, rfl, hb, hs, fun i v x h5 h6 => by rw [hc i v x h5 h6]; exact .pr (.val _)⟩
  · rcases inv r _ hr with ⟨_, g⟩ | ⟨_, g⟩
    · exact h.hr.t.dl y r base (eT ▸ hy) g
    · cases g; exact hnot (.inr (eT ▸ hy))
  · rw [eT]; exact h.hr.t.sub r S items y (hfo hr) hS

/-! ### What floats -/

/-- What joins the chain's state: a result, or a new variable. -/
inductive It where
  | f (d : Tmp)
  | a (d : Tmp) (e : TypeId)

def It.d : It → Tmp
  | .f d => d
  | .a d _ => d

def inR : List Nat → Nat → Bool
  | [], _ => false
  | x :: l, r => x == r || inR l r
theorem inR_nil (r : Nat) : inR [] r = false := nrf rfl
theorem inR_cons (x : Nat) (l : List Nat) (r : Nat) : inR (x :: l) r = (x == r || inR l r) := nrf rfl
theorem inR_mem : ∀ {l : List Nat} {r : Nat}, inR l r = true ↔ r ∈ l
  | [], r => by simp [inR]
  | x :: l, r => by simp only [inR, Bool.or_eq_true, beq_iff_eq, inR_mem (l := l), List.mem_cons]; exact ⟨fun h => h.elim (fun h => .inl h.symm) .inr, fun h => h.elim (fun h => .inl h.symm) .inr⟩

def clr (s : AS) : List (Nat × It) → AS
  | [] => s
  | (_, .f d) :: l => clr (s.put (some d) .any) l
  | (_, .a d _) :: l => clr (s.put (some d) .any) l

def addI (T : TypeId → Ty) (tmF : List AV) (s : AS) : List (Nat × It) → AS
  | [] => s
  | (_, .f d) :: l => addI T tmF (s.put (some d) (tmF.getD d .any)) l
  | (_, .a d e) :: l => addI T tmF { tm := s.tm.set d (.ptr s.L.length 0), L := s.L ++ [.cells ((T e).zero.map AV.val)] } l

def pend : List (Nat × List (Nat × It)) → List (Nat × It) → List (Nat × It)
  | [], fin => fin
  | (_, new) :: rest, fin => new ++ pend rest fin

/-- Quiet operations; a row that is written once. -/
def qOpL (P : Program) (T : TypeId → Ty) (o : Op) (s : AS) (K : AV → Prop) : Prop :=
  match o with
  | .buildSlice t n ps => sLit T false t n (ps.toList.map fun p => (p.1, s.ev p.2)) s (fun r s' => s' = s ∧ K r)
  | o => qOp P T o s K

/-- The floating operations, in the order of the text. -/
def sxF (P : Program) (T : TypeId → Ty) (fx : List Nat) (ops : List Oper) : List Nat → AS → (List AV → Prop) → Prop
  | [], s, K => K s.tm
  | i :: l, s, K =>
    match ops[i]? with
    | some o => qOpL P T o.op s (fun r => sxF P T fx ops l (s.put o.dst (r.filt (inR fx))) K)
    | none => False

/-- The floating operations that are still to come yield the same in this state. -/
def sxRe (P : Program) (T : TypeId → Ty) (fx : List Nat) (ops : List Oper) (tmF : List AV) : List (Nat × It) → AS → (AS → Prop) → Prop
  | [], s, K => K s
  | (i, .f d) :: l, s, K =>
    match ops[i]? with
    | some o => qOpL P T o.op ⟨tmF, s.L⟩ (fun r => r.filt (inR fx) = tmF.getD d .any ∧ sxRe P T fx ops tmF l s K)
    | none => False
  | (_, .a _ _) :: l, s, K => sxRe P T fx ops tmF l s K

/-- The chain. -/
def sxC (P : Program) (T : TypeId → Ty) (fx bl : List Nat) (ops : List Oper) (tmF : List AV) (fin : List (Nat × It)) : List (Nat × List (Nat × It)) → AS → (AS → Prop) → Prop
  | [], s, K => K (addI T tmF s fin)
  | (c, new) :: rest, s, K =>
    match ops[c]? with
    | some o => aOp P T fx bl o (addI T tmF s new) (fun s' => sxRe P T fx ops tmF (pend rest fin) (clr s' (pend rest fin)) (fun s'' => sxC P T fx bl ops tmF fin rest s'' K))
    | none => False

theorem QOK.congr {o : Oper} {s s' : AS} {r : AV} (h : QOK P o s r) (hL : s'.L = s.L) (he : ∀ x ∈ o.op.operands, s'.ev x = s.ev x) : QOK P o s' r :=
  fun ρ a w hr hx => h ρ a w (hL ▸ hr) (fun x hx' => he x hx' ▸ hx x hx')

/-- A new block that came up and has not joined yet. -/
def NewAt (T : TypeId → Ty) (a : Act) (w : World) (d : Tmp) (e : TypeId) (b : Nat) : Prop :=
  (∀ v, a.tmps[d]? = some v → v = .pointer (some ⟨b, 0, none⟩)) ∧ ∃ c, w.heap[b]? = some (.cells c e (0, 0)) ∧ c.size = ((T e).zero.map AV.val).length ∧ ∀ (j : Nat) v x, c[j]? = some v → ((T e).zero.map AV.val)[j]? = some x → x = .val v

theorem Rel.clr {ρ : Env} {a : Act} {w : World} : ∀ (l : List (Nat × It)) (s : AS), Rel ρ s a w → Rel ρ (clr s l) a w
  | [], _, h => h
  | (_, .f d) :: l, _, h => Rel.clr l _ (h.set d fun _ _ => .pr (.any _))
  | (_, .a d _) :: l, _, h => Rel.clr l _ (h.set d fun _ _ => .pr (.any _))
theorem VR.filtd {w : World} {ρ : Env} {v : Value} {x : AV} (h : VR w ρ v x) (p : Nat → Bool) : VR w ρ v (x.filt p) := h.mono .refl (fun _ _ h => h) p (fun _ _ _ h => h)

theorem NewAt.grow {a : Act} {w w' : World} {d : Tmp} {e : TypeId} {b : Nat} (h : NewAt T a w d e b) (hs : w'.heap[b]? = w.heap[b]?) : NewAt T a w' d e b := by
  obtain ⟨h1, c, h2, h3⟩ := h
  exact ⟨h1, c, by rw [hs]; exact h2, h3⟩
theorem NewAt.put {a : Act} {w : World} {d : Tmp} {e : TypeId} {b : Nat} (h : NewAt T a w d e b) {dst : Option Tmp} (hd : dst ≠ some d) (v : Value) : NewAt T (a.put dst v) w d e b := by
  refine ⟨fun u hu => h.1 u ?_, h.2⟩
  cases dst with
  | none => exact hu
  | some d' =>
    simp only [Act.put] at hu
    rwa [Array.getElem?_setIfInBounds_ne (fun e => hd (by rw [e]))] at hu
theorem NewAt.lt {a : Act} {w : World} {d : Tmp} {e : TypeId} {b : Nat} (h : NewAt T a w d e b) : b < w.heap.size := by
  obtain ⟨_, c, h2, _⟩ := h
  exact (Array.getElem?_eq_some_iff.1 h2).1

section
variable {fx0 : List Nat} {ops : List Oper} {fl : List Nat} {ch : List (Nat × List (Nat × It))} {fin : List (Nat × It)} {tmF : List AV} {K : AS → Prop} {ρ0 : Env} {w0 : World} {done rest : List (Nat × List (Nat × It))} {β : Nat → Nat} {listed : Array Bool} {ρ : Env} {s : AS} {a : Act} {w : World}

end

def KF (P : Program) (T : TypeId → Ty) (fx bl : List Nat) (ops : List Oper) (fin : List (Nat × It)) (ch : List (Nat × List (Nat × It))) (s : AS) (K : AS → Prop) (tmF : List AV) : Prop := sxC P T fx bl ops tmF fin ch (clr s (pend ch fin)) K
theorem KF_x (ops : List Oper) (fin : List (Nat × It)) (ch : List (Nat × List (Nat × It))) (s : AS) (K : AS → Prop) (tmF : List AV) : KF P T fx bl ops fin ch s K tmF = sxC P T fx bl ops tmF fin ch (clr s (pend ch fin)) K := nrf rfl

/-! ### The rules of the walk -/

def QLk (s : AS) (K : AV → Prop) (r : AV) (s' : AS) : Prop := s' = s ∧ K r
theorem QLk_self (s : AS) (K : AV → Prop) (r : AV) : QLk s K r s = K r := by simp [QLk]
theorem ql_buildSlice (t : TypeId) (n : Nat) (ps : Array (Nat × Operand)) (s : AS) (K : AV → Prop) : qOpL P T (.buildSlice t n ps) s K = sLit T false t n (ps.toList.map fun p => (p.1, s.ev p.2)) s (QLk s K) := nrf rfl
theorem ql_move (x : Operand) (s : AS) (K : AV → Prop) : qOpL P T (.move x) s K = qOp P T (.move x) s K := nrf rfl
theorem ql_assign (x : Operand) (s : AS) (K : AV → Prop) : qOpL P T (.assign x) s K = qOp P T (.assign x) s K := nrf rfl
theorem ql_pick (x y z : Operand) (s : AS) (K : AV → Prop) : qOpL P T (.pick x y z) s K = qOp P T (.pick x y z) s K := nrf rfl
theorem ql_load (t : TypeId) (x : Operand) (s : AS) (K : AV → Prop) : qOpL P T (.load t x) s K = qOp P T (.load t x) s K := nrf rfl
theorem ql_nilCheck (x : Operand) (s : AS) (K : AV → Prop) : qOpL P T (.nilCheck x) s K = qOp P T (.nilCheck x) s K := nrf rfl
theorem ql_binOp (b : BinOp) (t : TypeId) (x y : Operand) (t' : TypeId) (s : AS) (K : AV → Prop) : qOpL P T (.binOp b t x y t') s K = qOp P T (.binOp b t x y t') s K := nrf rfl
theorem ql_unOp (u : UnOp) (t : TypeId) (x : Operand) (s : AS) (K : AV → Prop) : qOpL P T (.unOp u t x) s K = qOp P T (.unOp u t x) s K := nrf rfl
theorem ql_convert (t t' : TypeId) (x : Operand) (s : AS) (K : AV → Prop) : qOpL P T (.convert t t' x) s K = qOp P T (.convert t t' x) s K := nrf rfl
theorem ql_slice (t : TypeId) (x : Operand) (l h m : Option Operand) (s : AS) (K : AV → Prop) : qOpL P T (.slice t x l h m) s K = qOp P T (.slice t x l h m) s K := nrf rfl
theorem ql_fieldAddr (t : TypeId) (x : Operand) (n : Nat) (s : AS) (K : AV → Prop) : qOpL P T (.fieldAddr t x n) s K = qOp P T (.fieldAddr t x n) s K := nrf rfl
theorem ql_field (t : TypeId) (x : Operand) (n : Nat) (s : AS) (K : AV → Prop) : qOpL P T (.field t x n) s K = qOp P T (.field t x n) s K := nrf rfl
theorem ql_indexAddr (t : TypeId) (x y : Operand) (s : AS) (K : AV → Prop) : qOpL P T (.indexAddr t x y) s K = qOp P T (.indexAddr t x y) s K := nrf rfl
theorem ql_index (t : TypeId) (x y : Operand) (s : AS) (K : AV → Prop) : qOpL P T (.index t x y) s K = qOp P T (.index t x y) s K := nrf rfl
theorem ql_extract (x : Operand) (n : Nat) (s : AS) (K : AV → Prop) : qOpL P T (.extract x n) s K = qOp P T (.extract x n) s K := nrf rfl
theorem ql_build (t : TypeId) (ps : Array (Nat × Operand)) (s : AS) (K : AV → Prop) : qOpL P T (.build t ps) s K = qOp P T (.build t ps) s K := nrf rfl
theorem ql_makeFunc (f : Fn) (p1 p2 : Array Operand) (s : AS) (K : AV → Prop) : qOpL P T (.makeFunc f p1 p2) s K = qOp P T (.makeFunc f p1 p2) s K := nrf rfl
theorem ql_call (c : Call) (s : AS) (K : AV → Prop) : qOpL P T (.call c) s K = qOp P T (.call c) s K := nrf rfl

def FPut (P : Program) (T : TypeId → Ty) (fx : List Nat) (ops : List Oper) (l : List Nat) (s : AS) (K : List AV → Prop) (dst : Option Tmp) (r : AV) : Prop := sxF P T fx ops l (s.put dst (r.filt (inR fx))) K
def FGo (P : Program) (T : TypeId → Ty) (fx : List Nat) (ops : List Oper) (l : List Nat) (s : AS) (K : List AV → Prop) (o : Oper) : Prop := qOpL P T o.op s (FPut P T fx ops l s K o.dst)
theorem FPut_x (ops : List Oper) (l : List Nat) (s : AS) (K : List AV → Prop) (dst : Option Tmp) (r : AV) : FPut P T fx ops l s K dst r = sxF P T fx ops l (s.put dst (r.filt (inR fx))) K := nrf rfl
theorem FGo_x (ops : List Oper) (l : List Nat) (s : AS) (K : List AV → Prop) (dst : Option Tmp) (op : Op) (ty : TypeId) (pos : String) (after : Array Edge) (g : Option (Nat × Bool)) : FGo P T fx ops l s K { dst := dst, op := op, type := ty, pos := pos, after := after, guard := g } = qOpL P T op s (FPut P T fx ops l s K dst) := nrf rfl
theorem sxF_nil (ops : List Oper) (s : AS) (K : List AV → Prop) : sxF P T fx ops [] s K = K s.tm := nrf rfl
theorem sxF_cons (ops : List Oper) (i : Nat) (l : List Nat) (s : AS) (K : List AV → Prop) : sxF P T fx ops (i :: l) s K = Opt ops[i]? (FGo P T fx ops l s K) := by
  simp only [sxF, Opt]
  cases ops[i]? with
  | none => simp
  | some o => simp [FGo]; exact Iff.rfl

def ReEq (P : Program) (T : TypeId → Ty) (fx : List Nat) (ops : List Oper) (tmF : List AV) (d : Tmp) (l : List (Nat × It)) (s : AS) (K : AS → Prop) (r : AV) : Prop := Req (r.filt (inR fx) = tmF.getD d .any) (sxRe P T fx ops tmF l s) K
def ReGo (P : Program) (T : TypeId → Ty) (fx : List Nat) (ops : List Oper) (tmF : List AV) (d : Tmp) (l : List (Nat × It)) (s : AS) (K : AS → Prop) (o : Oper) : Prop := qOpL P T o.op ⟨tmF, s.L⟩ (ReEq P T fx ops tmF d l s K)
theorem ReEq_x (ops : List Oper) (tmF : List AV) (d : Tmp) (l : List (Nat × It)) (s : AS) (K : AS → Prop) (r : AV) : ReEq P T fx ops tmF d l s K r = Req (r.filt (inR fx) = tmF.getD d .any) (sxRe P T fx ops tmF l s) K := nrf rfl
theorem ReGo_x (ops : List Oper) (tmF : List AV) (d : Tmp) (l : List (Nat × It)) (s : AS) (K : AS → Prop) (dst : Option Tmp) (op : Op) (ty : TypeId) (pos : String) (after : Array Edge) (g : Option (Nat × Bool)) : ReGo P T fx ops tmF d l s K { dst := dst, op := op, type := ty, pos := pos, after := after, guard := g } = qOpL P T op ⟨tmF, s.L⟩ (ReEq P T fx ops tmF d l s K) := nrf rfl
theorem sxRe_nil (ops : List Oper) (tmF : List AV) (s : AS) (K : AS → Prop) : sxRe P T fx ops tmF [] s K = K s := nrf rfl
theorem sxRe_f (ops : List Oper) (tmF : List AV) (i : Nat) (d : Tmp) (l : List (Nat × It)) (s : AS) (K : AS → Prop) : sxRe P T fx ops tmF ((i, .f d) :: l) s K = Opt ops[i]? (ReGo P T fx ops tmF d l s K) := by
  simp only [sxRe, Opt]
  cases ops[i]? with
  | none => simp
  | some o => simp [ReGo]; exact Iff.rfl
theorem sxRe_a (ops : List Oper) (tmF : List AV) (i : Nat) (d : Tmp) (e : TypeId) (l : List (Nat × It)) (s : AS) (K : AS → Prop) : sxRe P T fx ops tmF ((i, .a d e) :: l) s K = sxRe P T fx ops tmF l s K := nrf rfl

def CRest (P : Program) (T : TypeId → Ty) (fx bl : List Nat) (ops : List Oper) (tmF : List AV) (fin : List (Nat × It)) (rest : List (Nat × List (Nat × It))) (K : AS → Prop) (s : AS) : Prop := sxC P T fx bl ops tmF fin rest s K
def CNx (P : Program) (T : TypeId → Ty) (fx bl : List Nat) (ops : List Oper) (tmF : List AV) (fin : List (Nat × It)) (rest : List (Nat × List (Nat × It))) (K : AS → Prop) (s : AS) : Prop := sxRe P T fx ops tmF (pend rest fin) (clr s (pend rest fin)) (CRest P T fx bl ops tmF fin rest K)
def CGo (P : Program) (T : TypeId → Ty) (fx bl : List Nat) (ops : List Oper) (tmF : List AV) (fin new : List (Nat × It)) (rest : List (Nat × List (Nat × It))) (s : AS) (K : AS → Prop) (o : Oper) : Prop := aOp P T fx bl o (addI T tmF s new) (CNx P T fx bl ops tmF fin rest K)
theorem CRest_x (ops : List Oper) (tmF : List AV) (fin : List (Nat × It)) (rest : List (Nat × List (Nat × It))) (K : AS → Prop) (s : AS) : CRest P T fx bl ops tmF fin rest K s = sxC P T fx bl ops tmF fin rest s K := nrf rfl
theorem CNx_x (ops : List Oper) (tmF : List AV) (fin : List (Nat × It)) (rest : List (Nat × List (Nat × It))) (K : AS → Prop) (s : AS) : CNx P T fx bl ops tmF fin rest K s = sxRe P T fx ops tmF (pend rest fin) (clr s (pend rest fin)) (CRest P T fx bl ops tmF fin rest K) := nrf rfl
theorem CGo_x (ops : List Oper) (tmF : List AV) (fin new : List (Nat × It)) (rest : List (Nat × List (Nat × It))) (s : AS) (K : AS → Prop) (dst : Option Tmp) (op : Op) (ty : TypeId) (pos : String) (after : Array Edge) (g : Option (Nat × Bool)) :
    CGo P T fx bl ops tmF fin new rest s K { dst := dst, op := op, type := ty, pos := pos, after := after, guard := g } = aOp P T fx bl { dst := dst, op := op, type := ty, pos := pos, after := after, guard := g } (addI T tmF s new) (CNx P T fx bl ops tmF fin rest K) := nrf rfl
theorem sxC_nil (ops : List Oper) (tmF : List AV) (fin : List (Nat × It)) (s : AS) (K : AS → Prop) : sxC P T fx bl ops tmF fin [] s K = K (addI T tmF s fin) := nrf rfl
theorem sxC_cons (ops : List Oper) (tmF : List AV) (fin new : List (Nat × It)) (c : Nat) (rest : List (Nat × List (Nat × It))) (s : AS) (K : AS → Prop) : sxC P T fx bl ops tmF fin ((c, new) :: rest) s K = Opt ops[c]? (CGo P T fx bl ops tmF fin new rest s K) := by
  simp only [sxC, Opt]
  cases ops[c]? with
  | none => simp
  | some o => simp [CGo]; exact Iff.rfl

theorem clr_nil (s : AS) : clr s [] = s := nrf rfl
theorem clr_f (s : AS) (i : Nat) (d : Tmp) (l : List (Nat × It)) : clr s ((i, .f d) :: l) = clr (s.put (some d) .any) l := nrf rfl
theorem clr_a (s : AS) (i : Nat) (d : Tmp) (e : TypeId) (l : List (Nat × It)) : clr s ((i, .a d e) :: l) = clr (s.put (some d) .any) l := nrf rfl
theorem addI_nil (tmF : List AV) (s : AS) : addI T tmF s [] = s := nrf rfl
theorem addI_f (tmF : List AV) (s : AS) (i : Nat) (d : Tmp) (l : List (Nat × It)) : addI T tmF s ((i, .f d) :: l) = addI T tmF (s.put (some d) (tmF.getD d .any)) l := nrf rfl
theorem addI_a (tmF tm : List AV) (L : List OB) (i : Nat) (d : Tmp) (e : TypeId) (l : List (Nat × It)) : addI T tmF ⟨tm, L⟩ ((i, .a d e) :: l) = addI T tmF ⟨tm.set d (.ptr L.length 0), L ++ [.cells ((T e).zero.map AV.val)]⟩ l := nrf rfl
theorem pend_nil (fin : List (Nat × It)) : pend [] fin = fin := nrf rfl
theorem pend_cons (c : Nat) (new : List (Nat × It)) (rest : List (Nat × List (Nat × It))) (fin : List (Nat × It)) : pend ((c, new) :: rest) fin = new ++ pend rest fin := nrf rfl

theorem ft_any (p : Nat → Bool) : AV.filt p .any = .any := by simp [AV.filt]
theorem ft_val (p : Nat → Bool) (v : Value) : AV.filt p (.val v) = .val v := by simp [AV.filt]
theorem ft_sl (p : Nat → Bool) (es : List (List AV)) : AV.filt p (.sl es) = .sl es := by simp [AV.filt]
theorem ft_ip (p : Nat → Bool) (cs : List AV) : AV.filt p (.ip cs) = .ip cs := by simp [AV.filt]
theorem ft_agg (p : Nat → Bool) (l : List AV) : AV.filt p (.agg l) = .agg (filtL p l) := by simp [AV.filt]
theorem ft_tup (p : Nat → Bool) (l : List AV) : AV.filt p (.tup l) = .tup (filtL p l) := by simp [AV.filt]
theorem ft_fn (p : Nat → Bool) (f : FuncId) (l : List AV) : AV.filt p (.fn f l) = .fn f (filtL p l) := by simp [AV.filt]
theorem ft_ptr (p : Nat → Bool) (r off : Nat) : AV.filt p (.ptr r off) = cond (p r) (.ptr r off) .any := by simp only [AV.filt]; cases p r <;> rfl
theorem ft_vp (p : Nat → Bool) (r k i off : Nat) : AV.filt p (.vp r k i off) = cond (p r) (.vp r k i off) .any := by simp only [AV.filt]; cases p r <;> rfl
theorem ft_os (p : Nat → Bool) (r k off n : Nat) : AV.filt p (.os r k off n) = cond (p r) (.os r k off n) .any := by simp only [AV.filt]; cases p r <;> rfl
theorem ftL_nil (p : Nat → Bool) : filtL p [] = [] := nrf rfl
theorem ftL_cons (p : Nat → Bool) (x : AV) (l : List AV) : filtL p (x :: l) = x.filt p :: filtL p l := nrf rfl

/-! ### Calls that are handed own blocks -/

def keepRs (ms : List Nat) (r : Nat) : Bool := !inR ms r
theorem keepRs_x (ms : List Nat) (r : Nat) : keepRs ms r = !inR ms r := nrf rfl

theorem acall_own {f : FuncId} {args argsC : List AV} {L0 : List OB} {fxc : List Nat} {R : AV → List OB → Prop} (h : ACalls P f args L0 fxc R) (rs ms : List Nat) {s : AS} (hk : keepL (nameIn rs s.L.length) s.L rs L0) (hn : rs.Nodup)
    (hfx : (rs.zipIdx.all fun p => !fx.contains p.1 || fxc.contains p.2) = true) (hm : movedBy rs fxc = ms) (hargs : argsC = args.map (AV.ren (nameIn rs s.L.length))) {K : AV → AS → Prop}
    (hK : ∀ res L', R res L' → K (res.ren (nameIn rs s.L.length)) ⟨s.tm.map (AV.filt (keepRs ms)), setAll (s.L.map (OB.filt (keepRs ms))) rs (L'.map (OB.ren (nameIn rs s.L.length))) ++ (L'.drop rs.length).map (OB.ren (nameIn rs s.L.length))⟩) : ACall P fx (.fn f []) argsC s K :=
  acall_ks h rs hk hn hfx hargs fun res L' hR => by
    have e : (fun r => !(movedBy rs fxc).contains r) = keepRs ms := by
      funext r
      rw [hm, keepRs]
      congr 1
      rw [Bool.eq_iff_iff, inR_mem]
      simp
    have := hK res L' hR
    simp only [AS.back, e]
    exact this

theorem of_any (p : Nat → Bool) (cs : List AV) : OB.filt p (.cells cs) = .cells (filtL p cs) := by simp [OB.filt, filtL_map]
theorem of_vec (p : Nat → Bool) (k : Nat) (es : List (List AV)) : OB.filt p (.vec k es) = .vec k es := nrf rfl
theorem of_dead (p : Nat → Bool) : OB.filt p .dead = .dead := nrf rfl
theorem of_forest (p : Nat → Bool) (S : Nat → Prop) (l : List (Value × AV)) : OB.filt p (.forest S l) = .forest S l := nrf rfl
theorem or_forest (σ : Nat → Nat) (S : Nat → Prop) (l : List (Value × AV)) : OB.ren σ (.forest S l) = .forest S l := nrf rfl
theorem or_cells (σ : Nat → Nat) (cs : List AV) : OB.ren σ (.cells cs) = .cells (renL σ cs) := by simp [OB.ren, renL_map]
theorem or_vec (σ : Nat → Nat) (k : Nat) (es : List (List AV)) : OB.ren σ (.vec k es) = .vec k es := nrf rfl
theorem or_dead (σ : Nat → Nat) : OB.ren σ .dead = .dead := nrf rfl
theorem rn_any (σ : Nat → Nat) : AV.ren σ .any = .any := by simp [AV.ren]
theorem rn_val (σ : Nat → Nat) (v : Value) : AV.ren σ (.val v) = .val v := by simp [AV.ren]
theorem rn_sl (σ : Nat → Nat) (es : List (List AV)) : AV.ren σ (.sl es) = .sl es := by simp [AV.ren]
theorem rn_ip (σ : Nat → Nat) (cs : List AV) : AV.ren σ (.ip cs) = .ip cs := by simp [AV.ren]
theorem rn_agg (σ : Nat → Nat) (l : List AV) : AV.ren σ (.agg l) = .agg (renL σ l) := by simp [AV.ren]
theorem rn_tup (σ : Nat → Nat) (l : List AV) : AV.ren σ (.tup l) = .tup (renL σ l) := by simp [AV.ren]
theorem rn_fn (σ : Nat → Nat) (f : FuncId) (l : List AV) : AV.ren σ (.fn f l) = .fn f (renL σ l) := by simp [AV.ren]
theorem rn_ptr (σ : Nat → Nat) (r off : Nat) : AV.ren σ (.ptr r off) = .ptr (σ r) off := by simp [AV.ren]
theorem rn_vp (σ : Nat → Nat) (r k i off : Nat) : AV.ren σ (.vp r k i off) = .vp (σ r) k i off := by simp [AV.ren]
theorem rn_os (σ : Nat → Nat) (r k off n : Nat) : AV.ren σ (.os r k off n) = .os (σ r) k off n := by simp [AV.ren]
theorem rnL_nil (σ : Nat → Nat) : renL σ [] = [] := nrf rfl
theorem rnL_cons (σ : Nat → Nat) (x : AV) (l : List AV) : renL σ (x :: l) = x.ren σ :: renL σ l := nrf rfl
theorem nameIn_x (rs : List Nat) (m j : Nat) : nameIn rs m j = rs.getD j (m + (j - rs.length)) := nrf rfl
theorem setAll_nil (L os : List OB) : setAll L [] os = L := by simp [setAll]
theorem setAll_cons (L os : List OB) (r : Nat) (rs : List Nat) (o : OB) : setAll L (r :: rs) (o :: os) = setAll (L.set r o) rs os := nrf rfl
theorem keepL_nil (σ : Nat → Nat) (L : List OB) : keepL σ L [] [] = True := nrf rfl
theorem keepL_cons (σ : Nat → Nat) (L : List OB) (r : Nat) (ks : List Nat) (o : OB) (os : List OB) : keepL σ L (r :: ks) (o :: os) = (L[r]? = some (o.ren σ) ∧ keepL σ L ks os) := nrf rfl
theorem freeL_rend (σ : Nat → Nat) {l : List AV} (h : freeL l = true) : renL σ l = l := freeL_ren σ l h

theorem kill_x (r : Nat) (tm : List AV) (L : List OB) : AS.kill r ⟨tm, L⟩ = ⟨tm.map (AV.filt (keepRs [r])), L.map (OB.filt (keepRs [r]))⟩ := by
  have e : (fun r' : Nat => r' != r) = keepRs [r] := by
    funext r'
    simp [keepRs, inR, bne, BEq.comm]
  have e2 : OB.kill r = OB.filt (keepRs [r]) := by
    funext o
    rw [← e]
    cases o <;> rfl
  simp only [AS.kill, e, e2]

/-- An own row, whole, is handed back as an immutable one. -/
theorem fin_row {R : AV → List OB → Prop} {s : AS} {r k n : Nat} {es : List (List AV)} (hL : s.L[r]? = some (.vec k es)) (hn : n = es.length) (hR : R (.sl es) []) : Fin [] 0 R s (.os r k 0 n) := by
  refine fin_frz hL (by simp) ?_
  have e : AV.frz r k es (.os r k 0 n) = .sl es := by
    simp only [AV.frz, if_true, Nat.zero_add, true_and]
    rw [if_pos (by omega), List.drop_zero, List.take_of_length_le (by omega)]
  rw [e]
  exact fin_free rfl hR
/-- The same for a function with captured variables. -/
theorem acall_cl {f : FuncId} {caps args argsC : List AV} {L0 : List OB} {fxc : List Nat} {R : AV → List OB → Prop} (h : ACalls P f args L0 fxc R) (rs ms : List Nat) {s : AS} (hk : keepL (nameIn rs s.L.length) s.L rs L0) (hn : rs.Nodup)
    (hfx : (rs.zipIdx.all fun p => !fx.contains p.1 || fxc.contains p.2) = true) (hm : movedBy rs fxc = ms) (hargs : argsC ++ caps = args.map (AV.ren (nameIn rs s.L.length))) {K : AV → AS → Prop}
    (hK : ∀ res L', R res L' → K (res.ren (nameIn rs s.L.length)) ⟨s.tm.map (AV.filt (keepRs ms)), setAll (s.L.map (OB.filt (keepRs ms))) rs (L'.map (OB.ren (nameIn rs s.L.length))) ++ (L'.drop rs.length).map (OB.ren (nameIn rs s.L.length))⟩) : ACall P fx (.fn f caps) argsC s K :=
  acall h s rs hn (keepL_in hk).1 (keepL_in hk).2 (fun j r hj hr => by
    have := List.all_eq_true.1 hfx (r, j) (List.mem_zipIdx_iff_getElem?.2 hj)
    simp only [Bool.or_eq_true, Bool.not_eq_true', List.contains_eq_mem, decide_eq_true_eq, decide_eq_false_iff_not] at this
    rcases this with h1 | h1
    · exact absurd hr h1
    · exact h1) hargs fun res L' hR _ => by
    have e : (fun r => !(movedBy rs fxc).contains r) = keepRs ms := by
      funext r
      rw [hm, keepRs]
      congr 1
      rw [Bool.eq_iff_iff, inR_mem]
      simp
    have := hK res L' hR
    simp only [AS.back, e]
    exact this

/-- The place of the first one that is meant, -1 if there is none. -/
def ixOf {α : Type} (g : α → Bool) (l : List α) : Int := match l.findIdx? g with | some i => i | none => -1
theorem ixOf_at {α : Type} {g : α → Bool} {l : List α} {i : Nat} {x : α} (hx : l[i]? = some x) (h1 : ∀ p ∈ l.take i, g p = false) (h2 : g x = true) : ixOf g l = i := by
  have hi := (List.getElem?_eq_some_iff.1 hx)
  obtain ⟨hi, he⟩ := hi
  have : l.findIdx? g = some i := by
    rw [List.findIdx?_eq_some_iff_getElem]
    refine ⟨hi, by rw [he]; exact h2, fun j hj => ?_⟩
    have := h1 l[j] (List.mem_take_iff_getElem.2 ⟨j, by omega, rfl⟩)
    simp [this]
  simp [ixOf, this]
theorem ixOf_none {α : Type} {g : α → Bool} {l : List α} (h : ∀ p ∈ l, g p = false) : ixOf g l = -1 := by
  have : l.findIdx? g = none := List.findIdx?_eq_none_iff.2 h
  simp [ixOf, this]

end

end Go.Pc
