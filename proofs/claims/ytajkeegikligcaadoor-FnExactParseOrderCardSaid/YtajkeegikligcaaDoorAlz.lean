/- The abstract logic, fourteenth part: regions that draw their order, whose quiet operations and new variables float beside a chain of the others. -/
import Derived.Test.YtajkeegikligcaaDoorAlk
set_option linter.unusedSimpArgs false
set_option linter.unusedVariables false
namespace Go.Pc
open Go

section
variable {P : Program} {T : TypeId → Ty} {fx bl : List Nat}

/-! ### Relations between states -/

/-- What is written into junk changes nothing. -/
theorem Rel.junk {ρ : Env} {s : AS} {a : Act} {w : World} (h : Rel ρ s a w) {dst : Option Tmp} {v : Value} (hd : ∀ d x, dst = some d → s.tm[d]? = some x → x = .any) : Rel ρ s (a.put dst v) w := by
  cases dst with
  | none => exact h
  | some d =>
    refine ⟨h.dfr, by simp [Act.put, h.size], fun i u x h1 h2 => ?_, h.hr⟩
    by_cases hi : d = i
    · subst hi
      rw [hd d x rfl h2]
      exact .pr (.any _)
    · simp only [Act.put] at h1
      rw [Array.getElem?_setIfInBounds_ne hi] at h1
      exact h.tm i u x h1 h2

theorem Rel.set {ρ : Env} {s : AS} {a : Act} {w : World} (h : Rel ρ s a w) (d : Tmp) {x : AV} (hx : ∀ v, a.tmps[d]? = some v → VR w ρ v x) : Rel ρ (s.put (some d) x) a w := by
  refine ⟨h.dfr, by simp [AS.put, h.size], fun i u y h1 h2 => ?_, h.hr⟩
  simp only [AS.put] at h2
  by_cases hi : d = i
  · subst hi
    rw [List.getElem?_set] at h2
    split at h2
    · split at h2
      · cases h2; exact hx u h1
      · cases h2
    · exact h.tm d u y h1 h2
  · rw [List.getElem?_set_ne hi] at h2
    exact h.tm i u y h1 h2

/-- A new block that nobody sees. -/
theorem Rel.hide {ρ : Env} {s : AS} {a : Act} {w : World} (h : Rel ρ s a w) (o : Obj) : Rel ⟨ρ.l, fun y => ρ.X y ∨ y = w.heap.size, ρ.T⟩ s a (w.alloc o) := by
  have hg : Grow w (w.alloc o) := Fr.alloc _ _ _
  have hno : ∀ b, b < w.heap.size → no ⟨ρ.l, fun y => ρ.X y ∨ y = w.heap.size, ρ.T⟩ b → no ρ b := fun b hb hn => by
    rcases hn with hn | hn | hn
    · exact .inl hn
    · exact .inr hn
    · omega
  have keep : ∀ {v x}, VR w ρ v x → VR (w.alloc o) ⟨ρ.l, fun y => ρ.X y ∨ y = w.heap.size, ρ.T⟩ v x := fun hv => hv.keep (hg.fr _) hno (fun r x hx => hx)
  have keepP : ∀ {v x}, PR w (no ρ) v x → PR (w.alloc o) (no ⟨ρ.l, fun y => ρ.X y ∨ y = w.heap.size, ρ.T⟩) v x := fun hv => hv.mono (fun b hb _ => hg.same b hb (fun h => h)) hg.le hno
  refine ⟨h.dfr, h.size, fun i v x h1 h2 => keep (h.tm i v x h1 h2), ⟨h.hr.len, fun b hb => ?_, fun b hb hx => ?_, h.hr.inj, fun r o' l' h1 h2 => ?_, ⟨fun b hb => Nat.lt_of_lt_of_le (h.hr.t.lt b hb) hg.le, h.hr.t.dl, h.hr.t.sub, h.hr.t.dis⟩⟩⟩
  · have := hg.le
    rcases hb with hb | hb
    · exact Nat.lt_of_lt_of_le (h.hr.xlt b hb) hg.le
    · subst hb; simp
  · have hb' : own ρ b := hb
    rcases hx with hx | hx
    · exact h.hr.disj b hb' hx
    · have := own_lt h.hr hb'; omega
  · have he := h.hr.ent r o' l' h1 h2
    cases o' with
    | dead => exact he
    | cells cs =>
      obtain ⟨b, c, e, g1, g2, g3, g4⟩ := he
      exact ⟨b, c, e, g1, by rw [hg.same b (Array.getElem?_eq_some_iff.1 g2).1 (fun h => h)]; exact g2, g3, fun i v x h5 h6 => keep (g4 i v x h5 h6)⟩
    | slab cs =>
      rcases he with ⟨hz1, hz2⟩ | ⟨b, base0, c, e, g1, g2, g3, g4⟩
      · exact .inl ⟨hz1, by simpa using hz2⟩
      exact .inr ⟨b, base0, c, e, g1, by rw [hg.same b (Array.getElem?_eq_some_iff.1 g2).1 (fun h => h)]; exact g2, g3, fun i v x h5 h6 => keep (g4 i v x h5 h6)⟩
    | vec k es =>
      obtain ⟨h0, hl', hd⟩ := he
      refine ⟨h0, hl', ?_⟩
      rcases hd with hd | ⟨b, base, c, e, g1, g2, g3, g4⟩
      · exact .inl hd
      · exact .inr ⟨b, base, c, e, g1, by rw [hg.same b (Array.getElem?_eq_some_iff.1 g2).1 (fun h => h)]; exact g2, g3,
          fun i j ei x h5 h6 => let ⟨v, h7, h8⟩ := g4 i j ei x h5 h6; ⟨v, h7, keepP h8⟩⟩
    | forest S items => exact ⟨he.1, he.2.keep fun b _ hb => hg.same b hb (fun h => h)⟩

/-- A block that nobody saw becomes an own one. -/
theorem Rel.own1 {ρ : Env} {s : AS} {a : Act} {w : World} (h : Rel ρ s a w) {b : Nat} (hX : ρ.X b) {c : Array Value} {e : TypeId} (hb : w.heap[b]? = some (.cells c e (0, 0))) (cs : List AV) (hs : c.size = cs.length)
    (hc : ∀ (i : Nat) v x, c[i]? = some v → cs[i]? = some x → x = .val v) (d : Tmp) (hd : ∀ v, a.tmps[d]? = some v → v = .pointer (some ⟨b, 0, none⟩)) :
    Rel ⟨ρ.l ++ [some (b, 0)], fun y => ρ.X y ∧ y ≠ b, ρ.T⟩ { tm := s.tm.set d (.ptr s.L.length 0), L := s.L ++ [.cells cs] } a w := by
  generalize hρ : (⟨ρ.l ++ [some (b, 0)], fun y => ρ.X y ∧ y ≠ b, ρ.T⟩ : Env) = ρ'
  have el : ρ'.l = ρ.l ++ [some (b, 0)] := by rw [← hρ]
  have eX : ∀ y, ρ'.X y ↔ ρ.X y ∧ y ≠ b := fun y => by rw [← hρ]
  have eT : ρ'.T = ρ.T := by rw [← hρ]
  have hnot : ¬ own ρ b := fun ho => h.hr.disj b ho hX
  have old : ∀ (r : Nat) x, ρ.l[r]? = some x → ρ'.l[r]? = some x := fun r x hx => by
    rw [el, List.getElem?_append_left (List.getElem?_eq_some_iff.1 hx).1]; exact hx
  have inv : ∀ (r : Nat) x, ρ'.l[r]? = some x → (r < ρ.l.length ∧ ρ.l[r]? = some x) ∨ (r = ρ.l.length ∧ x = some (b, 0)) := fun r x hx => by
    rw [el] at hx
    by_cases hlt : r < ρ.l.length
    · rw [List.getElem?_append_left hlt] at hx; exact .inl ⟨hlt, hx⟩
    · rw [List.getElem?_append_right (by omega)] at hx
      cases hk : r - ρ.l.length with
      | zero => rw [hk] at hx; simp at hx; exact .inr ⟨by omega, hx.symm⟩
      | succ k => rw [hk] at hx; simp at hx
  have own' : ∀ y, own ρ' y → own ρ y ∨ y = b := fun y hy => by
    rcases hy with ⟨r, base, hr⟩ | hy
    · rcases inv r _ hr with ⟨_, g⟩ | ⟨_, g⟩
      · exact .inl (.l g)
      · cases g; exact .inr rfl
    · exact .inl (.inr (eT ▸ hy))
  have hno : ∀ y, no ρ' y → no ρ y := fun y hn => by
    rcases hn with hn | hn
    · rcases own' y hn with h1 | h1
      · exact .inl h1
      · subst h1; exact .inr hX
    · exact .inr ((eX y).1 hn).1
  have keep : ∀ {v x}, VR w ρ v x → VR w ρ' v x := fun hv => hv.keep .refl (fun y _ => hno y) old
  have keepP : ∀ {v x}, PR w (no ρ) v x → PR w (no ρ') v x := fun hv => hv.mono (fun _ _ _ => rfl) (Nat.le_refl _) (fun y _ => hno y)
  have hlen := h.hr.len
  have hfo : ∀ {r : Nat} {S : Nat → Prop} {items : List (Value × AV)}, (s.L ++ [OB.cells cs])[r]? = some (OB.forest S items) → s.L[r]? = some (OB.forest S items) := fun {r S items} hh =>
    AS.push_forest (s := s) (o := .cells cs) (fun _ _ e => by cases e) hh
  refine ⟨h.dfr, by simp [h.size], fun i u y h1 h2 => ?_, ⟨by rw [el]; simp [hlen], fun y hy => h.hr.xlt y ((eX y).1 hy).1, fun y hy hx => ?_, fun r r' y base base' h1 h2 => ?_, fun r o l h1 h2 => ?_, ⟨fun y hy => h.hr.t.lt y (eT ▸ hy), fun y r base hy hr => ?_, fun r S items y hr hS => ?_, fun r r' S S' items items' y h1 h2 => h.hr.t.dis r r' S S' items items' y (hfo h1) (hfo h2)⟩⟩⟩
  · simp only at h2
    by_cases hi : d = i
    · subst hi
      rw [List.getElem?_set] at h2
      simp only [if_true] at h2
      split at h2
      · cases h2
        rw [hd u h1]
        exact .ptr _ 0 b 0 (by rw [el, ← hlen, List.getElem?_append_right (Nat.le_refl _), Nat.sub_self]; rfl)
      · cases h2
    · rw [List.getElem?_set_ne hi] at h2
      exact keep (h.tm i u y h1 h2)
  · obtain ⟨hx, hne⟩ := (eX y).1 hx
    rcases own' y hy with h1 | h1
    · exact h.hr.disj y h1 hx
    · exact hne h1
  · rcases inv r _ h1 with ⟨_, g1⟩ | ⟨e1, g1⟩ <;> rcases inv r' _ h2 with ⟨_, g2⟩ | ⟨e2, g2⟩
    · exact h.hr.inj _ _ _ _ _ g1 g2
    · cases g2; exact absurd (.l g1) hnot
    · cases g1; exact absurd (.l g2) hnot
    · omega
  · rcases inv r _ h2 with ⟨hlt, g⟩ | ⟨hr, g⟩
    · rw [List.getElem?_append_left (by rw [← hlen]; exact hlt)] at h1
      have he := h.hr.ent r o l h1 g
      cases o with
      | dead => exact he
      | cells cs =>
        obtain ⟨b, c, e, g1, g2, g3, g4⟩ := he
        exact ⟨b, c, e, g1, g2, g3, fun i v x h5 h6 => keep (g4 i v x h5 h6)⟩
      | slab cs =>
        rcases he with ⟨hz1, hz2⟩ | ⟨b, base0, c, e, g1, g2, g3, g4⟩
        · exact .inl ⟨hz1, by simpa using hz2⟩
        exact .inr ⟨b, base0, c, e, g1, g2, g3, fun i v x h5 h6 => keep (g4 i v x h5 h6)⟩
      | vec k es =>
        obtain ⟨h0, hl', hd⟩ := he
        refine ⟨h0, hl', ?_⟩
        rcases hd with hd | ⟨b, base, c, e, g1, g2, g3, g4⟩
        · exact .inl hd
        · exact .inr ⟨b, base, c, e, g1, g2, g3, fun i j ei x h5 h6 => let ⟨v, h7, h8⟩ := g4 i j ei x h5 h6; ⟨v, h7, keepP h8⟩⟩
      | forest S items => exact he
    · subst g
      rw [hr, hlen, List.getElem?_append_right (Nat.le_refl _), Nat.sub_self] at h1
      cases h1
      exact ⟨b, c, e, rfl, hb, hs, fun i v x h5 h6 => by rw [hc i v x h5 h6]; exact .pr (.val _)⟩
  · rcases inv r _ hr with ⟨_, g⟩ | ⟨_, g⟩
    · exact h.hr.t.dl y r base (eT ▸ hy) g
    · cases g; exact hnot (.inr (eT ▸ hy))
  · rw [eT]; exact h.hr.t.sub r S items y (hfo hr) hS

/-! ### What floats -/

/-- What joins the chain's state: a result, or a new variable. -/
inductive It where
  | f (d : Tmp)
  | a (d : Tmp) (e : TypeId)

def It.d : It → Tmp
  | .f d => d
  | .a d _ => d

def inR : List Nat → Nat → Bool
  | [], _ => false
  | x :: l, r => x == r || inR l r
theorem inR_nil (r : Nat) : inR [] r = false := nrf rfl
theorem inR_cons (x : Nat) (l : List Nat) (r : Nat) : inR (x :: l) r = (x == r || inR l r) := nrf rfl
theorem inR_mem : ∀ {l : List Nat} {r : Nat}, inR l r = true ↔ r ∈ l
  | [], r => by simp [inR]
  | x :: l, r => by simp only [inR, Bool.or_eq_true, beq_iff_eq, inR_mem (l := l), List.mem_cons]; exact ⟨fun h => h.elim (fun h => .inl h.symm) .inr, fun h => h.elim (fun h => .inl h.symm) .inr⟩

def clr (s : AS) : List (Nat × It) → AS
  | [] => s
  | (_, .f d) :: l => clr (s.put (some d) .any) l
  | (_, .a d _) :: l => clr (s.put (some d) .any) l

def addI (T : TypeId → Ty) (tmF : List AV) (s : AS) : List (Nat × It) → AS
  | [] => s
  | (_, .f d) :: l => addI T tmF (s.put (some d) (tmF.getD d .any)) l
  | (_, .a d e) :: l => addI T tmF { tm := s.tm.set d (.ptr s.L.length 0), L := s.L ++ [.cells ((T e).zero.map AV.val)] } l

def pend : List (Nat × List (Nat × It)) → List (Nat × It) → List (Nat × It)
  | [], fin => fin
  | (_, new) :: rest, fin => new ++ pend rest fin

/-- Quiet operations; a row that is written once. -/
def qOpL (P : Program) (T : TypeId → Ty) (o : Op) (s : AS) (K : AV → Prop) : Prop :=
  match o with
  | .buildSlice t n ps => sLit T false t n (ps.toList.map fun p => (p.1, s.ev p.2)) s (fun r s' => s' = s ∧ K r)
  | o => qOp P T o s K

/-- The floating operations, in the order of the text. -/
def sxF (P : Program) (T : TypeId → Ty) (fx : List Nat) (ops : List Oper) : List Nat → AS → (List AV → Prop) → Prop
  | [], s, K => K s.tm
  | i :: l, s, K =>
    match ops[i]? with
    | some o => qOpL P T o.op s (fun r => sxF P T fx ops l (s.put o.dst (r.filt (inR fx))) K)
    | none => False

/-- The floating operations that are still to come yield the same in this state. -/
def sxRe (P : Program) (T : TypeId → Ty) (fx : List Nat) (ops : List Oper) (tmF : List AV) : List (Nat × It) → AS → (AS → Prop) → Prop
  | [], s, K => K s
  | (i, .f d) :: l, s, K =>
    match ops[i]? with
    | some o => qOpL P T o.op ⟨tmF, s.L⟩ (fun r => r.filt (inR fx) = tmF.getD d .any ∧ sxRe P T fx ops tmF l s K)
    | none => False
  | (_, .a _ _) :: l, s, K => sxRe P T fx ops tmF l s K

/-- The chain. -/
def sxC (P : Program) (T : TypeId → Ty) (fx bl : List Nat) (ops : List Oper) (tmF : List AV) (fin : List (Nat × It)) : List (Nat × List (Nat × It)) → AS → (AS → Prop) → Prop
  | [], s, K => K (addI T tmF s fin)
  | (c, new) :: rest, s, K =>
    match ops[c]? with
    | some o => aOp P T fx bl o (addI T tmF s new) (fun s' => sxRe P T fx ops tmF (pend rest fin) (clr s' (pend rest fin)) (fun s'' => sxC P T fx bl ops tmF fin rest s'' K))
    | none => False

/-! ### What the walks of floating operations tell -/

theorem qOpL_sound (hT : TTOk P T) {o : Oper} {s : AS} {K : AV → Prop} (h : qOpL P T o.op s K) : ∃ r, K r ∧ QOK P o s r := by
  unfold qOpL at h
  split at h
  · rename_i t n ps ho
    have h0 : ∃ es, K (.sl es) ∧ sLit T false t n (ps.toList.map fun p => (p.1, s.ev p.2)) ⟨[], s.L⟩ (fun r s' => s' = ⟨[], s.L⟩ ∧ r = .sl es) := by
      unfold sLit at h ⊢
      split at h
      · rename_i e hk
        obtain ⟨g1, g2, g3, g4, xs, g5, es, g6, g7⟩ := h
        split at g7
        · have := congrArg (fun x : AS => x.L.length) g7.1
          simp [AS.push] at this
        · rename_i hb
          refine ⟨es, g7.2, ?_⟩
          refine ⟨g1, g2, g3, g4, xs, g5, es, g6, ?_⟩
          rw [if_neg hb]
          exact ⟨rfl, rfl⟩
      · cases h
    obtain ⟨es, hK, h1⟩ := h0
    refine ⟨_, hK, fun ρ a w hr hx => ?_⟩
    obtain ⟨v, w', r, s', ρ', e1, ⟨e2, e3⟩, _, e5, _, e6⟩ := sLit_sound2 hT (fx := []) h1 (ρ := ρ) (a := { tmps := #[], defers := [] }) (w := w) ⟨rfl, rfl, fun i v x h => by simp at h, hr⟩ (vs := ps.map fun (i, x) => (i, a.eval x)) (by simp) (fun i v p hv hp => by
      rw [Array.getElem?_map] at hv
      rw [List.getElem?_map] at hp
      cases hq : ps[i]? with
      | none => simp [hq] at hv
      | some q =>
        have hq' : ps.toList[i]? = some q := by simpa using hq
        simp [hq] at hv
        simp [hq'] at hp
        subst hv; subst hp
        refine ⟨rfl, hx _ ?_⟩
        rw [ho]
        simp only [Op.operands]
        first
          | exact List.mem_map.2 ⟨q, List.mem_of_getElem? hq', rfl⟩
          | (simp; exact ⟨q.1, Array.mem_of_getElem? hq⟩))
    obtain ⟨rfl, hg⟩ := e6 e2
    subst e3
    simp only [execOp, ho, Sem.run_bind, e1, Result.andThen_ok, Sem.run_pure, Out]
    exact ⟨e5, hg⟩
  · exact qOp_sound hT h

theorem QOK.congr {o : Oper} {s s' : AS} {r : AV} (h : QOK P o s r) (hL : s'.L = s.L) (he : ∀ x ∈ o.op.operands, s'.ev x = s.ev x) : QOK P o s' r :=
  fun ρ a w hr hx => h ρ a w (hL ▸ hr) (fun x hx' => he x hx' ▸ hx x hx')

theorem filt_filt_aux (p : Nat → Bool) : (∀ x : AV, (x.filt p).filt p = x.filt p) ∧ ∀ l : List AV, filtL p (filtL p l) = filtL p l := by
  refine ⟨fun x => AV.rec (motive_1 := fun x => (x.filt p).filt p = x.filt p) (motive_2 := fun l => filtL p (filtL p l) = filtL p l) (motive_3 := fun _ => True) ?_ ?_ ?_ ?_ ?_ ?_ ?_ ?_ ?_ ?_ ?_ ?_ ?_ ?_ x, fun l => AV.rec_1 (motive_1 := fun x => (x.filt p).filt p = x.filt p) (motive_2 := fun l => filtL p (filtL p l) = filtL p l) (motive_3 := fun _ => True) ?_ ?_ ?_ ?_ ?_ ?_ ?_ ?_ ?_ ?_ ?_ ?_ ?_ ?_ l⟩
  all_goals first
    | (simp_all [AV.filt, filtL]; done)
    | (intros; simp only [AV.filt]; split <;> simp_all [AV.filt])
theorem AV.filt_filt (p : Nat → Bool) (x : AV) : (x.filt p).filt p = x.filt p := (filt_filt_aux p).1 x

theorem sxRe_spec (hT : TTOk P T) {ops : List Oper} {tmF : List AV} {K : AS → Prop} : ∀ (l : List (Nat × It)) (s : AS), sxRe P T fx ops tmF l s K → K s ∧ ∀ i d, (i, It.f d) ∈ l → ∃ o r, ops[i]? = some o ∧ QOK P o ⟨tmF, s.L⟩ r ∧ ∀ x, tmF[d]? = some x → x = r.filt (inR fx)
  | [], s, h => ⟨h, fun i d hi => by cases hi⟩
  | (i, .f d) :: l, s, h => by
    simp only [sxRe] at h
    split at h
    · rename_i o ho
      obtain ⟨r, ⟨h1, h2⟩, hq⟩ := qOpL_sound hT h
      obtain ⟨k1, k2⟩ := sxRe_spec hT l s h2
      refine ⟨k1, fun j d' hj => ?_⟩
      rcases List.mem_cons.1 hj with e | hj
      · cases e
        exact ⟨o, r, ho, hq, fun x hx => by rw [h1, List.getD_eq_getElem?_getD, hx]; rfl⟩
      · exact k2 j d' hj
    · cases h
  | (i, .a d e) :: l, s, h => by
    obtain ⟨k1, k2⟩ := sxRe_spec hT l s h
    refine ⟨k1, fun j d' hj => ?_⟩
    rcases List.mem_cons.1 hj with e | hj
    · cases e
    · exact k2 j d' hj

/-- A new block that came up and has not joined yet. -/
def NewAt (T : TypeId → Ty) (a : Act) (w : World) (d : Tmp) (e : TypeId) (b : Nat) : Prop :=
  (∀ v, a.tmps[d]? = some v → v = .pointer (some ⟨b, 0, none⟩)) ∧ ∃ c, w.heap[b]? = some (.cells c e (0, 0)) ∧ c.size = ((T e).zero.map AV.val).length ∧ ∀ (j : Nat) v x, c[j]? = some v → ((T e).zero.map AV.val)[j]? = some x → x = .val v

theorem addI_sound {tmF : List AV} {a : Act} {w : World} (β : Nat → Nat) : ∀ (new : List (Nat × It)) (ρ : Env) (s : AS), Rel ρ s a w → (∀ i d, (i, It.f d) ∈ new → ∀ v x, a.tmps[d]? = some v → tmF[d]? = some x → VR w ρ v x) →
    (∀ i d e, (i, It.a d e) ∈ new → ρ.X (β i) ∧ NewAt T a w d e (β i)) → (∀ i d e i' d' e', (i, It.a d e) ∈ new → (i', It.a d' e') ∈ new → β i = β i' → i = i') → (new.map (·.1)).Nodup →
    ∃ ρ', Rel ρ' (addI T tmF s new) a w ∧ (∀ (r : Nat) x, ρ.l[r]? = some x → ρ'.l[r]? = some x) ∧ (∀ b, no ρ' b → no ρ b) ∧ (∀ b, own ρ' b → own ρ b ∨ ∃ i d e, (i, It.a d e) ∈ new ∧ b = β i) ∧ (∀ b, ρ'.X b ↔ ρ.X b ∧ ∀ i d e, (i, It.a d e) ∈ new → b ≠ β i)
  | [], ρ, s, h, _, _, _, _ => ⟨ρ, h, fun _ _ h => h, fun _ h => h, fun _ h => .inl h, fun b => ⟨fun h => ⟨h, fun i d e hi => by cases hi⟩, fun h => h.1⟩⟩
  | (i, .f d) :: l, ρ, s, h, hf, ha, hinj, hnd => by
    have h1 : Rel ρ (s.put (some d) (tmF.getD d .any)) a w := h.set d fun v hv => by
      rw [List.getD_eq_getElem?_getD]
      cases hx : tmF[d]? with
      | none => exact .pr (.any _)
      | some x => exact hf i d (by simp) v x hv hx
    obtain ⟨ρ', k1, k2, k3, k4, k5⟩ := addI_sound β l ρ _ h1 (fun j d' hj => hf j d' (by simp [hj])) (fun j d' e' hj => ha j d' e' (by simp [hj])) (fun j d e j' d' e' hj hj' => hinj j d e j' d' e' (by simp [hj]) (by simp [hj'])) (by rw [List.map_cons, List.nodup_cons] at hnd; exact hnd.2)
    refine ⟨ρ', k1, k2, k3, fun b hb => ?_, fun b => ?_⟩
    · rcases k4 b hb with g | ⟨j, d', e', g, ge⟩
      · exact .inl g
      · exact .inr ⟨j, d', e', by simp [g], ge⟩
    · rw [k5 b]
      exact ⟨fun ⟨g1, g2⟩ => ⟨g1, fun j d' e' hj => by
        rcases List.mem_cons.1 hj with e | hj
        · cases e
        · exact g2 j d' e' hj⟩, fun ⟨g1, g2⟩ => ⟨g1, fun j d' e' hj => g2 j d' e' (by simp [hj])⟩⟩
  | (i, .a d e) :: l, ρ, s, h, hf, ha, hinj, hnd => by
    obtain ⟨hX, hd, c, hc1, hc2, hc3⟩ := ha i d e (by simp)
    rw [List.map_cons, List.nodup_cons] at hnd
    have h1 := h.own1 hX hc1 _ hc2 hc3 d hd
    have hne : ∀ j d' e', (j, It.a d' e') ∈ l → β j ≠ β i := fun j d' e' hj hb => by
      have := hinj j d' e' i d e (by simp [hj]) (by simp) hb
      subst this
      exact hnd.1 (List.mem_map.2 ⟨_, hj, rfl⟩)
    have hold : ∀ (r : Nat) x, ρ.l[r]? = some x → (ρ.l ++ [some (β i, 0)])[r]? = some x := fun r x hx => by
      rw [List.getElem?_append_left (List.getElem?_eq_some_iff.1 hx).1]; exact hx
    have hown : ∀ b, own ⟨ρ.l ++ [some (β i, 0)], fun y => ρ.X y ∧ y ≠ β i, ρ.T⟩ b → own ρ b ∨ b = β i := fun b hb => by
      rcases hb with ⟨r, base, hr⟩ | hb
      case inr => exact .inl (.inr hb)
      simp only at hr
      by_cases hlt : r < ρ.l.length
      · rw [List.getElem?_append_left hlt] at hr; exact .inl (.l hr)
      · rw [List.getElem?_append_right (by omega)] at hr
        cases hk : r - ρ.l.length with
        | zero => rw [hk] at hr; simp at hr; exact .inr hr.1.symm
        | succ k => rw [hk] at hr; simp at hr
    have hno : ∀ b, no ⟨ρ.l ++ [some (β i, 0)], fun y => ρ.X y ∧ y ≠ β i, ρ.T⟩ b → no ρ b := fun b hb => by
      rcases hb with hb | hb
      · rcases hown b hb with g | g
        · exact .inl g
        · subst g; exact .inr hX
      · exact .inr hb.1
    obtain ⟨ρ', k1, k2, k3, k4, k5⟩ := addI_sound β l _ _ h1 (fun j d' hj v x h2 h3 => (hf j d' (by simp [hj]) v x h2 h3).keep .refl (fun b _ => hno b) hold)
      (fun j d' e' hj => ⟨⟨(ha j d' e' (by simp [hj])).1, hne j d' e' hj⟩, (ha j d' e' (by simp [hj])).2⟩) (fun j d e j' d' e' hj hj' => hinj j d e j' d' e' (by simp [hj]) (by simp [hj'])) hnd.2
    refine ⟨ρ', k1, fun r x hx => k2 r x (hold r x hx), fun b hb => hno b (k3 b hb), fun b hb => ?_, fun b => ?_⟩
    · rcases k4 b hb with g | ⟨j, d', e', g, ge⟩
      · rcases hown b g with g | g
        · exact .inl g
        · exact .inr ⟨i, d, e, by simp, g⟩
      · exact .inr ⟨j, d', e', by simp [g], ge⟩
    · rw [k5 b]
      exact ⟨fun ⟨g1, g2⟩ => ⟨g1.1, fun j d' e' hj => by
        rcases List.mem_cons.1 hj with e | hj
        · cases e; exact g1.2
        · exact g2 j d' e' hj⟩, fun ⟨g1, g2⟩ => ⟨⟨g1, g2 i d e (by simp)⟩, fun j d' e' hj => g2 j d' e' (by simp [hj])⟩⟩

theorem clr_L : ∀ (l : List (Nat × It)) (s : AS), (clr s l).L = s.L
  | [], _ => rfl
  | (_, .f d) :: l, _ => by rw [clr, clr_L l]; rfl
  | (_, .a d _) :: l, _ => by rw [clr, clr_L l]; rfl
theorem Rel.clr {ρ : Env} {a : Act} {w : World} : ∀ (l : List (Nat × It)) (s : AS), Rel ρ s a w → Rel ρ (clr s l) a w
  | [], _, h => h
  | (_, .f d) :: l, _, h => Rel.clr l _ (h.set d fun _ _ => .pr (.any _))
  | (_, .a d _) :: l, _, h => Rel.clr l _ (h.set d fun _ _ => .pr (.any _))
theorem clr_any : ∀ (l : List (Nat × It)) (s : AS) (p : Nat × It) x, p ∈ l ∨ (∀ x, s.tm[p.2.d]? = some x → x = .any) → (clr s l).tm[p.2.d]? = some x → x = .any
  | [], s, p, x, hp, h => by
    rcases hp with hp | hp
    · cases hp
    · exact hp x h
  | q :: l, s, p, x, hp, h => by
    have hq : clr s (q :: l) = clr (s.put (some q.2.d) .any) l := by
      obtain ⟨i, it⟩ := q
      cases it <;> rfl
    rw [hq] at h
    refine clr_any l _ p x ?_ h
    have hs : ∀ y, (s.put (some q.2.d) .any).tm[p.2.d]? = some y → q.2.d = p.2.d → y = .any := fun y hy e => by
      simp only [AS.put, e, List.getElem?_set, if_true] at hy
      split at hy
      · cases hy; rfl
      · cases hy
    by_cases hpl : p ∈ l
    · exact .inl hpl
    · refine .inr fun y hy => ?_
      by_cases e : q.2.d = p.2.d
      · exact hs y hy e
      · rcases hp with hp | hp
        · rcases List.mem_cons.1 hp with rfl | hp
          · exact absurd rfl e
          · exact absurd hp hpl
        · simp only [AS.put] at hy
          rw [List.getElem?_set_ne e] at hy
          exact hp y hy

theorem pend_append : ∀ (l r : List (Nat × List (Nat × It))) (fin : List (Nat × It)), pend (l ++ r) fin = pend l [] ++ pend r fin
  | [], r, fin => rfl
  | (c, new) :: l, r, fin => by simp only [List.cons_append, pend, pend_append l r fin, List.append_assoc]

/-! ### The checks -/

def befB (ops : List Oper) : Nat → Nat → Nat → Bool
  | 0, _, _ => false
  | f + 1, c, i => decide (i < c) && match ops[c]? with
    | none => false
    | some o => (o.after.any fun e => Region.binds .any e && e.on == i) || o.after.any fun e => Region.binds .any e && befB ops f e.on i

def dstB (ops : List Oper) (i : Nat) (d : Tmp) : Bool := (List.range ops.length).all fun k => k == i || match ops[k]? with | some o => o.dst != some d | none => true

def rdyB (ops : List Oper) : Bool := (List.range ops.length).all fun j => match ops[j]? with
  | none => true
  | some o => o.guard.isNone && o.after.all fun e => !Region.binds .any e || decide (e.on < j)

def ascB : List Nat → Bool
  | i :: l => l.all (fun j => decide (i < j)) && ascB l
  | _ => true

def itB (ops : List Oper) (fl : List Nat) (p : Nat × It) : Bool := match ops[p.1]? with
  | none => false
  | some o => match p.2 with
    | .f d => fl.contains p.1 && o.dst == some d
    | .a d e => !fl.contains p.1 && o.dst == some d && dstB ops p.1 d && match o.op with | .alloc e' => e' == e | _ => false

def itOk (T : TypeId → Ty) (l : List (Nat × It)) : Bool := l.all fun p => match p.2 with | .f _ => true | .a _ e => (T e).kd.ok

def chB (ops : List Oper) : Option Nat → List (Nat × List (Nat × It)) → Bool
  | _, [] => true
  | pr, (c, new) :: rest => (match pr with | some b => befB ops ops.length c b | none => true) && new.all (fun p => befB ops ops.length c p.1) && chB ops (some c) rest

theorem befB_lt {ops : List Oper} : ∀ {f c i : Nat}, befB ops f c i = true → i < c
  | 0, _, _, h => by cases h
  | f + 1, c, i, h => by
    simp only [befB, Bool.and_eq_true, decide_eq_true_eq] at h
    exact h.1

/-- What is bound to come before has come. -/
theorem befB_listed {ops : List Oper} {listed : Array Bool} (hcl : ∀ (j : Nat) oj, ops[j]? = some oj → listed.getD j false = true → ∀ e ∈ oj.after, Region.binds .any e = true → listed.getD e.on false = true) :
    ∀ {f c i : Nat}, befB ops f c i = true → (∀ oc, ops[c]? = some oc → ∀ e ∈ oc.after, Region.binds .any e = true → listed.getD e.on false = true) → listed.getD i false = true
  | 0, _, _, h, _ => by cases h
  | f + 1, c, i, h, hc => by
    simp only [befB, Bool.and_eq_true] at h
    have h := h.2
    split at h
    · cases h
    · rename_i o ho
      simp only [Bool.or_eq_true] at h
      rcases h with h | h
      · obtain ⟨e, he, hb⟩ := Array.any_eq_true'.1 h
        simp only [Bool.and_eq_true, beq_iff_eq] at hb
        rw [← hb.2]
        exact hc o ho e he hb.1
      · obtain ⟨e, he, hb⟩ := Array.any_eq_true'.1 h
        simp only [Bool.and_eq_true] at hb
        exact befB_listed hcl hb.2 fun oc hoc => hcl e.on oc hoc (hc o ho e he hb.1)

theorem dstB_spec {ops : List Oper} {i : Nat} {d : Tmp} (h : dstB ops i d = true) : ∀ k ok, k ≠ i → ops[k]? = some ok → ok.dst ≠ some d := fun k ok hk hok => by
  have hkl := (List.getElem?_eq_some_iff.1 hok).1
  have := List.all_eq_true.1 h k (List.mem_range.2 hkl)
  rw [hok] at this
  simpa [hk] using this

structure Float (fx0 fx : List Nat) (ops : List Oper) (fl : List Nat) (ch : List (Nat × List (Nat × It))) (fin : List (Nat × It)) : Prop where
  rdy : ∀ (j : Nat) o, ops[j]? = some o → o.guard = none ∧ ∀ e ∈ o.after, Region.binds .any e = true → e.on < j
  flo : ∀ i ∈ fl, ∃ o d, ops[i]? = some o ∧ o.dst = some d ∧ (∀ k ok, k ≠ i → ops[k]? = some ok → ok.dst ≠ some d) ∧ ∀ t ∈ o.looksAt ops.toArray, ∀ (k : Nat) ok, ops[k]? = some ok → ok.dst = some t → k ∈ fl ∧ befB ops ops.length i k = true
  asc : fl.Pairwise (· < ·)
  itf : ∀ i d, (i, It.f d) ∈ pend ch fin → i ∈ fl ∧ ∃ o, ops[i]? = some o ∧ o.dst = some d
  ita : ∀ i d e, (i, It.a d e) ∈ pend ch fin → i ∉ fl ∧ ∃ o, ops[i]? = some o ∧ o.dst = some d ∧ o.op = .alloc e ∧ ∀ k ok, k ≠ i → ops[k]? = some ok → ok.dst ≠ some d
  chn : chB ops none ch = true
  all : ∀ k, k < ops.length → (∃ p ∈ ch, p.1 = k) ∨ ∃ p ∈ pend ch fin, p.1 = k
  dis : ∀ p ∈ ch, p.1 ∉ fl ∧ ∀ q ∈ pend ch fin, q.1 ≠ p.1
  nod : ((pend ch fin).map (·.1)).Nodup
  sub : ∀ r ∈ fx0, r ∈ fx

/-- What holds while the region runs. -/
structure FI (P : Program) (T : TypeId → Ty) (fx bl : List Nat) (ops : List Oper) (fl : List Nat) (fin : List (Nat × It)) (tmF : List AV) (K : AS → Prop) (ρ0 : Env) (w0 : World) (done rest : List (Nat × List (Nat × It))) (β : Nat → Nat) (listed : Array Bool) (ρ : Env) (s : AS) (a : Act) (w : World) : Prop where
  dn : ∀ p ∈ done, listed.getD p.1 false = true
  rs : ∀ p ∈ rest, listed.getD p.1 false = false
  cb : ∃ pr, chB ops pr rest = true
  pd : ∀ q ∈ pend done [], listed.getD q.1 false = true
  rel : Rel ρ s a w
  go : sxC P T fx bl ops tmF fin rest s K
  re : ∀ i d, (i, It.f d) ∈ pend rest fin → ∃ o r, ops[i]? = some o ∧ QOK P o ⟨tmF, s.L⟩ r ∧ ∀ x, tmF[d]? = some x → x = r.filt (inR fx)
  junk : ∀ p ∈ pend rest fin, ∀ x, s.tm[p.2.d]? = some x → x = .any
  kn : ∀ (t : Nat) v x, (∀ k ok, ops[k]? = some ok → ok.dst = some t → k ∈ fl ∧ listed.getD k false = true) → a.tmps[t]? = some v → tmF[t]? = some x → VR w ρ v x
  fr : Fr (own ρ0) w0 w
  sb : ∀ b, b < w0.heap.size → own ρ b → own ρ0 b
  fix : ∀ r ∈ fx, ∀ x, ρ0.l[r]? = some x → ρ.l[r]? = some x
  xa : ∀ b, ρ0.X b → ρ.X b
  xb : ∀ b, ρ.X b → ρ0.X b ∨ ∃ i d e, (i, It.a d e) ∈ pend rest fin ∧ listed.getD i false = true ∧ b = β i
  al : ∀ i d e, (i, It.a d e) ∈ pend rest fin → listed.getD i false = true → ρ.X (β i) ∧ w0.heap.size ≤ β i ∧ NewAt T a w d e (β i)
  inj : ∀ i d e i' d' e', (i, It.a d e) ∈ pend rest fin → (i', It.a d' e') ∈ pend rest fin → listed.getD i false = true → listed.getD i' false = true → β i = β i' → i = i'

theorem alloc_run (hT : TTOk P T) {e : TypeId} (hok : (T e).kd.ok = true) (w : World) : ∃ c, (Instr.alloc e true (.tuple #[])).run P w = .ok (.pointer (some ⟨w.heap.size, 0, none⟩)) (w.alloc (.cells c e)) ∧ c.size = ((T e).zero.map AV.val).length ∧ ∀ (j : Nat) v x, c[j]? = some v → ((T e).zero.map AV.val)[j]? = some x → x = .val v := by
  obtain ⟨i, d, z, h1, h2, h3, h4, h5, h6, h7, _⟩ := hT.ty e hok
  refine ⟨z.cells, by simp [Instr.alloc, zeroValue, typeInfo, h1, h6, newVar, newRow], ?_, fun j v x hv hx => ?_⟩
  · have := congrArg List.length h7
    simpa using this
  · rw [List.getElem?_map, ← h7] at hx
    have : z.cells.toList[j]? = some v := by simpa using hv
    rw [this] at hx
    simp at hx
    exact hx.symm

theorem VR.hide {w : World} {ρ : Env} {v : Value} {x : AV} (h : VR w ρ v x) (o : Obj) : VR (w.alloc o) ⟨ρ.l, fun y => ρ.X y ∨ y = w.heap.size, ρ.T⟩ v x :=
  h.keep (Grow.fr (Fr.alloc _ _ _) _) (fun b hb hn => by
    rcases hn with hn | hn | hn
    · exact .inl hn
    · exact .inr hn
    · omega) (fun _ _ h => h)

theorem VR.filtd {w : World} {ρ : Env} {v : Value} {x : AV} (h : VR w ρ v x) (p : Nat → Bool) : VR w ρ v (x.filt p) := h.mono .refl (fun _ _ h => h) p (fun _ _ _ h => h)

theorem NewAt.grow {a : Act} {w w' : World} {d : Tmp} {e : TypeId} {b : Nat} (h : NewAt T a w d e b) (hs : w'.heap[b]? = w.heap[b]?) : NewAt T a w' d e b := by
  obtain ⟨h1, c, h2, h3⟩ := h
  exact ⟨h1, c, by rw [hs]; exact h2, h3⟩
theorem NewAt.put {a : Act} {w : World} {d : Tmp} {e : TypeId} {b : Nat} (h : NewAt T a w d e b) {dst : Option Tmp} (hd : dst ≠ some d) (v : Value) : NewAt T (a.put dst v) w d e b := by
  refine ⟨fun u hu => h.1 u ?_, h.2⟩
  cases dst with
  | none => exact hu
  | some d' =>
    simp only [Act.put] at hu
    rwa [Array.getElem?_setIfInBounds_ne (fun e => hd (by rw [e]))] at hu
theorem NewAt.lt {a : Act} {w : World} {d : Tmp} {e : TypeId} {b : Nat} (h : NewAt T a w d e b) : b < w.heap.size := by
  obtain ⟨_, c, h2, _⟩ := h
  exact (Array.getElem?_eq_some_iff.1 h2).1

theorem put_ne {a : Act} {dst : Option Tmp} {v u : Value} {t : Nat} (hd : dst ≠ some t) (h : (a.put dst v).tmps[t]? = some u) : a.tmps[t]? = some u := by
  cases dst with
  | none => exact h
  | some d =>
    simp only [Act.put] at h
    rwa [Array.getElem?_setIfInBounds_ne (fun e => hd (by rw [e]))] at h
theorem put_eq {a : Act} {d : Tmp} {v u : Value} (h : (a.put (some d) v).tmps[d]? = some u) : u = v := by
  simp only [Act.put] at h
  have hl := (Array.getElem?_eq_some_iff.1 h).1
  simp only [Array.size_setIfInBounds] at hl
  rw [Array.getElem?_setIfInBounds_self_of_lt hl] at h
  cases h; rfl

section
variable {fx0 : List Nat} {ops : List Oper} {fl : List Nat} {ch : List (Nat × List (Nat × It))} {fin : List (Nat × It)} {tmF : List AV} {K : AS → Prop} {ρ0 : Env} {w0 : World} {done rest : List (Nat × List (Nat × It))} {β : Nat → Nat} {listed : Array Bool} {ρ : Env} {s : AS} {a : Act} {w : World}

theorem set_self {listed : Array Bool} {i : Nat} (h : i < listed.size) : (listed.setIfInBounds i true).getD i false = true := by
  rw [Array.getD_eq_getD_getElem?, Array.getElem?_setIfInBounds_self_of_lt h]; rfl
theorem set_inv {listed : Array Bool} {i j : Nat} (h : (listed.setIfInBounds i true).getD j false = true) (hij : j ≠ i) : listed.getD j false = true := by
  rwa [getD_set_ne false (Ne.symm hij)] at h

theorem FI.stepF (C : Float fx0 fx ops fl ch fin) (hch : ch = done ++ rest) (h : FI P T fx bl ops fl fin tmF K ρ0 w0 done rest β listed ρ s a w) {i : Nat} (hi : i ∈ fl) (hun : listed.getD i false = false) {o : Oper} {d : Tmp} (ho : ops[i]? = some o) (hd : o.dst = some d) (hp : (i, It.f d) ∈ pend rest fin)
    {v : Value} {w' : World} {r : AV} (hv : VR w' ρ v r) (hg : Grow w w') (hr : ∀ x, tmF[d]? = some x → x = r.filt (inR fx)) : FI P T fx bl ops fl fin tmF K ρ0 w0 done rest β (listed.setIfInBounds i true) ρ s (a.put o.dst v) w' := by
  have hpe : ∀ q ∈ pend rest fin, q ∈ pend ch fin := fun q hq => by rw [hch, pend_append]; exact List.mem_append_right _ hq
  have hai : ∀ i' d' e', (i', It.a d' e') ∈ pend rest fin → i' ≠ i := fun i' d' e' hq e => (C.ita i' d' e' (hpe _ hq)).1 (e ▸ hi)
  refine ⟨fun p hp => getD_set_true (h.dn p hp), fun p hp => ?_, h.cb, fun q hq => getD_set_true (h.pd q hq), ?_, h.go, h.re, h.junk, fun t u x hk hu hx => ?_, Fr.trans (o' := fun _ => False) h.fr hg (fun _ h => h.elim), h.sb, h.fix, h.xa, fun b hb => ?_, fun i' d' e' hq hl => ?_, fun i1 d1 e1 i2 d2 e2 h1 h2 l1 l2 hb => ?_⟩
  · rw [getD_set_ne false (fun e => (C.dis p (by rw [hch]; exact List.mem_append_right _ hp)).1 (by rw [← e]; exact hi))]
    exact h.rs p hp
  · refine (h.rel.grow hg).junk fun d' x hd' hx => h.junk _ hp x ?_
    rw [hd] at hd'; cases hd'; exact hx
  · by_cases hdt : d = t
    · subst hdt
      rw [hd] at hu
      rw [put_eq hu, hr x hx]
      exact hv.filtd _
    · have hne : o.dst ≠ some t := fun e => hdt (by rw [hd] at e; cases e; rfl)
      refine (h.kn t u x (fun k ok hok hkd => ?_) (put_ne hne hu) hx).grow hg
      obtain ⟨g1, g2⟩ := hk k ok hok hkd
      refine ⟨g1, set_inv g2 fun e => ?_⟩
      subst e
      rw [ho] at hok; cases hok
      exact hne hkd
  · rcases h.xb b hb with g | ⟨i', d', e', g1, g2, g3⟩
    · exact .inl g
    · exact .inr ⟨i', d', e', g1, getD_set_true g2, g3⟩
  · obtain ⟨g1, g2, g3⟩ := h.al i' d' e' hq (set_inv hl (hai _ _ _ hq))
    refine ⟨g1, g2, NewAt.put (g3.grow (hg.same _ g3.lt (fun h => h))) ?_ v⟩
    obtain ⟨_, oi, _, _, _, hu⟩ := C.ita i' d' e' (hpe _ hq)
    exact hu i o (fun e => hai _ _ _ hq e.symm) ho
  · exact h.inj i1 d1 e1 i2 d2 e2 h1 h2 (set_inv l1 (hai _ _ _ h1)) (set_inv l2 (hai _ _ _ h2)) hb

theorem FI.stepA (C : Float fx0 fx ops fl ch fin) (hch : ch = done ++ rest) (h : FI P T fx bl ops fl fin tmF K ρ0 w0 done rest β listed ρ s a w) {i : Nat} (hun : listed.getD i false = false) (hsz : i < listed.size) {o : Oper} {d : Tmp} {e : TypeId} (ho : ops[i]? = some o) (hd : o.dst = some d) (hp : (i, It.a d e) ∈ pend rest fin)
    {c : Array Value} (hc1 : c.size = ((T e).zero.map AV.val).length) (hc2 : ∀ (j : Nat) v x, c[j]? = some v → ((T e).zero.map AV.val)[j]? = some x → x = .val v) :
    FI P T fx bl ops fl fin tmF K ρ0 w0 done rest (fun j => if j = i then w.heap.size else β j) (listed.setIfInBounds i true) ⟨ρ.l, fun y => ρ.X y ∨ y = w.heap.size, ρ.T⟩ s (a.put o.dst (.pointer (some ⟨w.heap.size, 0, none⟩))) (w.alloc (.cells c e)) := by
  have hpe : ∀ q ∈ pend rest fin, q ∈ pend ch fin := fun q hq => by rw [hch, pend_append]; exact List.mem_append_right _ hq
  have hg : Grow w (w.alloc (.cells c e)) := Fr.alloc _ _ _
  have hnf : i ∉ fl := (C.ita i d e (hpe _ hp)).1
  have hne : ∀ i', listed.getD i' false = true → i' ≠ i := fun i' hl e' => by subst e'; rw [hun] at hl; cases hl
  refine ⟨fun p hp => getD_set_true (h.dn p hp), fun p hp' => ?_, h.cb, fun q hq => getD_set_true (h.pd q hq), ?_, h.go, h.re, h.junk, fun t u x hk hu hx => ?_, Fr.trans (o' := fun _ => False) h.fr hg (fun _ h => h.elim), h.sb, h.fix, fun b hb => .inl (h.xa b hb), fun b hb => ?_, fun i' d' e' hq hl => ?_, fun i1 d1 e1 i2 d2 e2 h1 h2 l1 l2 hb => ?_⟩
  · rw [getD_set_ne false (fun e' => (C.dis p (by rw [hch]; exact List.mem_append_right _ hp')).2 _ (hpe _ hp) e')]
    exact h.rs p hp'
  · refine (h.rel.hide _).junk fun d' x hd' hx => h.junk _ hp x ?_
    rw [hd] at hd'; cases hd'; exact hx
  · have hdt : o.dst ≠ some t := fun e' => hnf (hk i o ho e').1
    refine (h.kn t u x (fun k ok hok hkd => ?_) (put_ne hdt hu) hx).hide _
    obtain ⟨g1, g2⟩ := hk k ok hok hkd
    exact ⟨g1, set_inv g2 fun e' => hnf (e' ▸ g1)⟩
  · rcases hb with hb | hb
    · rcases h.xb b hb with g | ⟨i', d', e', g1, g2, g3⟩
      · exact .inl g
      · exact .inr ⟨i', d', e', g1, getD_set_true g2, by rw [if_neg (hne i' g2)]; exact g3⟩
    · exact .inr ⟨i, d, e, hp, set_self hsz, by rw [if_pos rfl]; exact hb⟩
  · by_cases hii : i' = i
    · subst hii
      rw [if_pos rfl]
      obtain ⟨_, o', ho', hd', hop', _⟩ := C.ita i' d' e' (hpe _ hq)
      obtain ⟨_, o'', ho'', hd'', hop'', _⟩ := C.ita i' d e (hpe _ hp)
      rw [ho] at ho' ho''; cases ho'; cases ho''
      rw [hd'] at hd''; cases hd''
      rw [hop'] at hop''; cases hop''
      refine ⟨.inr rfl, h.fr.le, fun u hu => ?_, c, heap_alloc_new w _, hc1, hc2⟩
      rw [hd'] at hu
      exact put_eq hu
    · rw [if_neg hii]
      obtain ⟨g1, g2, g3⟩ := h.al i' d' e' hq (set_inv hl hii)
      refine ⟨.inl g1, g2, NewAt.put (g3.grow (hg.same _ g3.lt (fun h => h))) ?_ _⟩
      obtain ⟨_, oi, _, _, _, hu⟩ := C.ita i' d' e' (hpe _ hq)
      exact hu i o (fun e => hii e.symm) ho
  · by_cases e1' : i1 = i <;> by_cases e2' : i2 = i
    · omega
    · simp only [e1', if_true, if_neg e2'] at hb
      have := (h.al i2 d2 e2 h2 (set_inv l2 e2')).2.2.lt
      omega
    · simp only [e2', if_true, if_neg e1'] at hb
      have := (h.al i1 d1 e1 h1 (set_inv l1 e1')).2.2.lt
      omega
    · simp only [if_neg e1', if_neg e2'] at hb
      exact h.inj i1 d1 e1 i2 d2 e2 h1 h2 (set_inv l1 e1') (set_inv l2 e2') hb

theorem chB_next {ops : List Oper} : ∀ {rest : List (Nat × List (Nat × It))} {c : Nat}, chB ops (some c) rest = true → ∀ p ∈ rest, c < p.1 ∧ ∃ q, (q = c ∨ ∃ p' ∈ rest, p'.1 = q) ∧ befB ops ops.length p.1 q = true
  | [], _, _, p, hp => by cases hp
  | (c', new) :: rest, c, h, p, hp => by
    simp only [chB, Bool.and_eq_true] at h
    rcases List.mem_cons.1 hp with rfl | hp
    · exact ⟨befB_lt h.1.1, c, .inl rfl, h.1.1⟩
    · obtain ⟨h1, q, h2, h3⟩ := chB_next h.2 p hp
      have := befB_lt h.1.1
      refine ⟨by omega, q, .inr ?_, h3⟩
      rcases h2 with rfl | ⟨p', hp', e⟩
      · exact ⟨_, List.mem_cons_self .., rfl⟩
      · exact ⟨p', by simp [hp'], e⟩

theorem FI.stepC (hT : TTOk P T) (C : Float fx0 fx ops fl ch fin) (htF : ∀ (t : Nat) x, tmF[t]? = some x → x.filt (inR fx) = x) (hx0 : ∀ b, ρ0.X b → b < w0.heap.size) {c : Nat} {new : List (Nat × It)} (hch : ch = done ++ (c, new) :: rest)
    (h : FI P T fx bl ops fl fin tmF K ρ0 w0 done ((c, new) :: rest) β listed ρ s a w) (hsz : c < listed.size) {o : Oper} (ho : ops[c]? = some o) (hnew : ∀ p ∈ new, listed.getD p.1 false = true) :
    Out P (fun v w' => ∃ ρ' s', FI P T fx bl ops fl fin tmF K ρ0 w0 (done ++ [(c, new)]) rest β (listed.setIfInBounds c true) ρ' s' (a.put o.dst v) w') ((execOp a.eval o).run P w) := by
  have hpe : ∀ q ∈ pend ((c, new) :: rest) fin, q ∈ pend ch fin := fun q hq => by rw [hch, pend_append]; exact List.mem_append_right _ hq
  have hpn : ∀ q ∈ new, q ∈ pend ((c, new) :: rest) fin := fun q hq => List.mem_append_left _ hq
  have hpr : ∀ q ∈ pend rest fin, q ∈ pend ((c, new) :: rest) fin := fun q hq => List.mem_append_right _ hq
  have hcm : (c, new) ∈ ch := by rw [hch]; simp
  have hcf : c ∉ fl := (C.dis _ hcm).1
  have hcq : ∀ q ∈ pend ((c, new) :: rest) fin, q.1 ≠ c := fun q hq => (C.dis _ hcm).2 q (hpe q hq)
  have hnod : ((new ++ pend rest fin).map (·.1)).Nodup := by
    have := C.nod
    rw [hch, pend_append, List.map_append] at this
    exact (List.nodup_append.1 this).2.1
  rw [List.map_append] at hnod
  obtain ⟨hn1, _, hn3⟩ := List.nodup_append.1 hnod
  have hgo := h.go
  simp only [sxC, ho] at hgo
  obtain ⟨ρ1, k1, k2, k3, k4, k5⟩ := addI_sound (tmF := tmF) (T := T) β new ρ s h.rel (fun i d hi v x hv hx => h.kn d v x (fun k ok hok hkd => by
      obtain ⟨hif, oi, hoi, hdi⟩ := C.itf i d (hpe _ (hpn _ hi))
      obtain ⟨o', d', ho', hd', hu, _⟩ := C.flo i hif
      rw [hoi] at ho'; cases ho'
      rw [hdi] at hd'; cases hd'
      by_cases hki : k = i
      · subst hki; exact ⟨hif, hnew _ hi⟩
      · exact absurd hkd (hu k ok hki hok)) hv hx)
    (fun i d e hi => by have := h.al i d e (hpn _ hi) (hnew _ hi); exact ⟨this.1, this.2.2⟩) (fun i d e i' d' e' hi hi' => h.inj i d e i' d' e' (hpn _ hi) (hpn _ hi') (hnew _ hi) (hnew _ hi')) hn1
  refine ((aOp_sound hT hgo) ρ1 a w k1).mono fun v w' ⟨s1, ρ2, hK, hrel, hst⟩ => ?_
  obtain ⟨g1, g2⟩ := sxRe_spec hT _ _ hK
  have hβ : ∀ i d e, (i, It.a d e) ∈ new → w0.heap.size ≤ β i := fun i d e hi => (h.al i d e (hpn _ hi) (hnew _ hi)).2.1
  have hXX : ρ2.X = ρ1.X := hst.x
  have hown1 : ∀ b, own ρ1 b → own ρ b ∨ w0.heap.size ≤ b := fun b hb => by
    rcases k4 b hb with q | ⟨i, d, e, q1, q2⟩
    · exact .inl q
    · exact .inr (by rw [q2]; exact hβ i d e q1)
  refine ⟨ρ2, clr s1 (pend rest fin), ⟨fun p hp => ?_, fun p hp => ?_, ?_, fun q hq => ?_, Rel.clr _ _ hrel, g1, g2, fun p hp x hx => clr_any _ _ p x (.inl hp) hx, fun t u x hk hu hx => ?_, ?_, fun b hb ho2 => ?_, fun r hr x hx => ?_, fun b hb => ?_, fun b hb => ?_, fun i d e hq hl => ?_, fun i1 d1 e1 i2 d2 e2 h1 h2 l1 l2 hb => ?_⟩⟩
  · rcases List.mem_append.1 hp with hp | hp
    · exact getD_set_true (h.dn p hp)
    · simp at hp; subst hp; exact set_self hsz
  · obtain ⟨pr, hcb⟩ := h.cb
    simp only [chB, Bool.and_eq_true] at hcb
    have := (chB_next hcb.2 p hp).1
    rw [getD_set_ne false (by omega)]
    exact h.rs p (by simp [hp])
  · obtain ⟨pr, hcb⟩ := h.cb
    simp only [chB, Bool.and_eq_true] at hcb
    exact ⟨_, hcb.2⟩
  · rw [pend_append] at hq
    rcases List.mem_append.1 hq with hq | hq
    · exact getD_set_true (h.pd q hq)
    · simp only [pend, List.append_nil] at hq
      exact getD_set_true (hnew q hq)
  · have hdt : o.dst ≠ some t := fun e' => hcf (hk c o ho e').1
    have hv := (h.kn t u x (fun k ok hok hkd => by
      obtain ⟨g1, g2⟩ := hk k ok hok hkd
      exact ⟨g1, set_inv g2 fun e' => hcf (e' ▸ g1)⟩) (put_ne hdt hu) hx).keep .refl (ρ' := ρ1) (fun b _ => k3 b) k2
    have := hv.mono (ρ' := ρ2) hst.fr (fun b hb hn => hst.no b hb hn) (inR fx) (fun r l hp hl => hst.fix r (inR_mem.1 hp) l hl)
    rwa [htF t x hx] at this
  · exact Fr.trans h.fr hst.fr fun b hb => by
      rcases hown1 b hb with q | q
      · rcases Nat.lt_or_ge b w0.heap.size with hlt | hge
        · exact .inl (h.sb b hlt q)
        · exact .inr hge
      · exact .inr q
  · rcases hown1 b (hst.sub b (Nat.lt_of_lt_of_le hb h.fr.le) ho2) with q | q
    · exact h.sb b hb q
    · omega
  · exact hst.fix r hr x (k2 r x (h.fix r hr x hx))
  · rw [hXX]
    refine (k5 b).2 ⟨h.xa b hb, fun i d e hi e' => ?_⟩
    have := hβ i d e hi
    have := hx0 b hb
    omega
  · rw [hXX] at hb
    obtain ⟨q1, q2⟩ := (k5 b).1 hb
    rcases h.xb b q1 with q | ⟨i, d, e, q3, q4, q5⟩
    · exact .inl q
    · rcases List.mem_append.1 q3 with q6 | q6
      · exact absurd q5 (q2 i d e q6)
      · exact .inr ⟨i, d, e, q6, getD_set_true q4, q5⟩
  · have hl' := set_inv hl (hcq _ (hpr _ hq))
    obtain ⟨q1, q2, q3⟩ := h.al i d e (hpr _ hq) hl'
    have hX1 : ρ1.X (β i) := (k5 _).2 ⟨q1, fun i' d' e' hi' hb => by
      have := h.inj i d e i' d' e' (hpr _ hq) (hpn _ hi') hl' (hnew _ hi') hb
      exact hn3 i' (List.mem_map.2 ⟨_, hi', rfl⟩) i (List.mem_map.2 ⟨_, hq, rfl⟩) this.symm⟩
    refine ⟨hXX ▸ hX1, q2, NewAt.put (q3.grow (hst.fr.same _ q3.lt fun ho' => k1.hr.disj _ ho' hX1)) ?_ v⟩
    obtain ⟨_, oi, _, _, _, hu⟩ := C.ita i d e (hpe _ (hpr _ hq))
    exact hu c o (fun e' => hcq _ (hpr _ hq) e'.symm) ho
  · exact h.inj i1 d1 e1 i2 d2 e2 (hpr _ h1) (hpr _ h2) (set_inv l1 (hcq _ (hpr _ h1))) (set_inv l2 (hcq _ (hpr _ h2))) hb
end

def KF (P : Program) (T : TypeId → Ty) (fx bl : List Nat) (ops : List Oper) (fin : List (Nat × It)) (ch : List (Nat × List (Nat × It))) (s : AS) (K : AS → Prop) (tmF : List AV) : Prop := sxC P T fx bl ops tmF fin ch (clr s (pend ch fin)) K
theorem KF_x (ops : List Oper) (fin : List (Nat × It)) (ch : List (Nat × List (Nat × It))) (s : AS) (K : AS → Prop) (tmF : List AV) : KF P T fx bl ops fin ch s K tmF = sxC P T fx bl ops tmF fin ch (clr s (pend ch fin)) K := nrf rfl

/-! ### The rules of the walk -/

def QLk (s : AS) (K : AV → Prop) (r : AV) (s' : AS) : Prop := s' = s ∧ K r
theorem QLk_self (s : AS) (K : AV → Prop) (r : AV) : QLk s K r s = K r := by simp [QLk]
theorem ql_buildSlice (t : TypeId) (n : Nat) (ps : Array (Nat × Operand)) (s : AS) (K : AV → Prop) : qOpL P T (.buildSlice t n ps) s K = sLit T false t n (ps.toList.map fun p => (p.1, s.ev p.2)) s (QLk s K) := nrf rfl
theorem ql_move (x : Operand) (s : AS) (K : AV → Prop) : qOpL P T (.move x) s K = qOp P T (.move x) s K := nrf rfl
theorem ql_assign (x : Operand) (s : AS) (K : AV → Prop) : qOpL P T (.assign x) s K = qOp P T (.assign x) s K := nrf rfl
theorem ql_pick (x y z : Operand) (s : AS) (K : AV → Prop) : qOpL P T (.pick x y z) s K = qOp P T (.pick x y z) s K := nrf rfl
theorem ql_load (t : TypeId) (x : Operand) (s : AS) (K : AV → Prop) : qOpL P T (.load t x) s K = qOp P T (.load t x) s K := nrf rfl
theorem ql_nilCheck (x : Operand) (s : AS) (K : AV → Prop) : qOpL P T (.nilCheck x) s K = qOp P T (.nilCheck x) s K := nrf rfl
theorem ql_binOp (b : BinOp) (t : TypeId) (x y : Operand) (t' : TypeId) (s : AS) (K : AV → Prop) : qOpL P T (.binOp b t x y t') s K = qOp P T (.binOp b t x y t') s K := nrf rfl
theorem ql_unOp (u : UnOp) (t : TypeId) (x : Operand) (s : AS) (K : AV → Prop) : qOpL P T (.unOp u t x) s K = qOp P T (.unOp u t x) s K := nrf rfl
theorem ql_convert (t t' : TypeId) (x : Operand) (s : AS) (K : AV → Prop) : qOpL P T (.convert t t' x) s K = qOp P T (.convert t t' x) s K := nrf rfl
theorem ql_slice (t : TypeId) (x : Operand) (l h m : Option Operand) (s : AS) (K : AV → Prop) : qOpL P T (.slice t x l h m) s K = qOp P T (.slice t x l h m) s K := nrf rfl
theorem ql_fieldAddr (t : TypeId) (x : Operand) (n : Nat) (s : AS) (K : AV → Prop) : qOpL P T (.fieldAddr t x n) s K = qOp P T (.fieldAddr t x n) s K := nrf rfl
theorem ql_field (t : TypeId) (x : Operand) (n : Nat) (s : AS) (K : AV → Prop) : qOpL P T (.field t x n) s K = qOp P T (.field t x n) s K := nrf rfl
theorem ql_indexAddr (t : TypeId) (x y : Operand) (s : AS) (K : AV → Prop) : qOpL P T (.indexAddr t x y) s K = qOp P T (.indexAddr t x y) s K := nrf rfl
theorem ql_index (t : TypeId) (x y : Operand) (s : AS) (K : AV → Prop) : qOpL P T (.index t x y) s K = qOp P T (.index t x y) s K := nrf rfl
theorem ql_extract (x : Operand) (n : Nat) (s : AS) (K : AV → Prop) : qOpL P T (.extract x n) s K = qOp P T (.extract x n) s K := nrf rfl
theorem ql_build (t : TypeId) (ps : Array (Nat × Operand)) (s : AS) (K : AV → Prop) : qOpL P T (.build t ps) s K = qOp P T (.build t ps) s K := nrf rfl
theorem ql_makeFunc (f : Fn) (p1 p2 : Array Operand) (s : AS) (K : AV → Prop) : qOpL P T (.makeFunc f p1 p2) s K = qOp P T (.makeFunc f p1 p2) s K := nrf rfl
theorem ql_call (c : Call) (s : AS) (K : AV → Prop) : qOpL P T (.call c) s K = qOp P T (.call c) s K := nrf rfl

def FPut (P : Program) (T : TypeId → Ty) (fx : List Nat) (ops : List Oper) (l : List Nat) (s : AS) (K : List AV → Prop) (dst : Option Tmp) (r : AV) : Prop := sxF P T fx ops l (s.put dst (r.filt (inR fx))) K
def FGo (P : Program) (T : TypeId → Ty) (fx : List Nat) (ops : List Oper) (l : List Nat) (s : AS) (K : List AV → Prop) (o : Oper) : Prop := qOpL P T o.op s (FPut P T fx ops l s K o.dst)
theorem FPut_x (ops : List Oper) (l : List Nat) (s : AS) (K : List AV → Prop) (dst : Option Tmp) (r : AV) : FPut P T fx ops l s K dst r = sxF P T fx ops l (s.put dst (r.filt (inR fx))) K := nrf rfl
theorem FGo_x (ops : List Oper) (l : List Nat) (s : AS) (K : List AV → Prop) (dst : Option Tmp) (op : Op) (ty : TypeId) (pos : String) (after : Array Edge) (g : Option (Nat × Bool)) : FGo P T fx ops l s K { dst := dst, op := op, type := ty, pos := pos, after := after, guard := g } = qOpL P T op s (FPut P T fx ops l s K dst) := nrf rfl
theorem sxF_nil (ops : List Oper) (s : AS) (K : List AV → Prop) : sxF P T fx ops [] s K = K s.tm := nrf rfl
theorem sxF_cons (ops : List Oper) (i : Nat) (l : List Nat) (s : AS) (K : List AV → Prop) : sxF P T fx ops (i :: l) s K = Opt ops[i]? (FGo P T fx ops l s K) := by
  simp only [sxF, Opt]
  cases ops[i]? with
  | none => simp
  | some o => simp [FGo]; exact Iff.rfl

def ReEq (P : Program) (T : TypeId → Ty) (fx : List Nat) (ops : List Oper) (tmF : List AV) (d : Tmp) (l : List (Nat × It)) (s : AS) (K : AS → Prop) (r : AV) : Prop := Req (r.filt (inR fx) = tmF.getD d .any) (sxRe P T fx ops tmF l s) K
def ReGo (P : Program) (T : TypeId → Ty) (fx : List Nat) (ops : List Oper) (tmF : List AV) (d : Tmp) (l : List (Nat × It)) (s : AS) (K : AS → Prop) (o : Oper) : Prop := qOpL P T o.op ⟨tmF, s.L⟩ (ReEq P T fx ops tmF d l s K)
theorem ReEq_x (ops : List Oper) (tmF : List AV) (d : Tmp) (l : List (Nat × It)) (s : AS) (K : AS → Prop) (r : AV) : ReEq P T fx ops tmF d l s K r = Req (r.filt (inR fx) = tmF.getD d .any) (sxRe P T fx ops tmF l s) K := nrf rfl
theorem ReGo_x (ops : List Oper) (tmF : List AV) (d : Tmp) (l : List (Nat × It)) (s : AS) (K : AS → Prop) (dst : Option Tmp) (op : Op) (ty : TypeId) (pos : String) (after : Array Edge) (g : Option (Nat × Bool)) : ReGo P T fx ops tmF d l s K { dst := dst, op := op, type := ty, pos := pos, after := after, guard := g } = qOpL P T op ⟨tmF, s.L⟩ (ReEq P T fx ops tmF d l s K) := nrf rfl
theorem sxRe_nil (ops : List Oper) (tmF : List AV) (s : AS) (K : AS → Prop) : sxRe P T fx ops tmF [] s K = K s := nrf rfl
theorem sxRe_f (ops : List Oper) (tmF : List AV) (i : Nat) (d : Tmp) (l : List (Nat × It)) (s : AS) (K : AS → Prop) : sxRe P T fx ops tmF ((i, .f d) :: l) s K = Opt ops[i]? (ReGo P T fx ops tmF d l s K) := by
  simp only [sxRe, Opt]
  cases ops[i]? with
  | none => simp
  | some o => simp [ReGo]; exact Iff.rfl
theorem sxRe_a (ops : List Oper) (tmF : List AV) (i : Nat) (d : Tmp) (e : TypeId) (l : List (Nat × It)) (s : AS) (K : AS → Prop) : sxRe P T fx ops tmF ((i, .a d e) :: l) s K = sxRe P T fx ops tmF l s K := nrf rfl

def CRest (P : Program) (T : TypeId → Ty) (fx bl : List Nat) (ops : List Oper) (tmF : List AV) (fin : List (Nat × It)) (rest : List (Nat × List (Nat × It))) (K : AS → Prop) (s : AS) : Prop := sxC P T fx bl ops tmF fin rest s K
def CNx (P : Program) (T : TypeId → Ty) (fx bl : List Nat) (ops : List Oper) (tmF : List AV) (fin : List (Nat × It)) (rest : List (Nat × List (Nat × It))) (K : AS → Prop) (s : AS) : Prop := sxRe P T fx ops tmF (pend rest fin) (clr s (pend rest fin)) (CRest P T fx bl ops tmF fin rest K)
def CGo (P : Program) (T : TypeId → Ty) (fx bl : List Nat) (ops : List Oper) (tmF : List AV) (fin new : List (Nat × It)) (rest : List (Nat × List (Nat × It))) (s : AS) (K : AS → Prop) (o : Oper) : Prop := aOp P T fx bl o (addI T tmF s new) (CNx P T fx bl ops tmF fin rest K)
theorem CRest_x (ops : List Oper) (tmF : List AV) (fin : List (Nat × It)) (rest : List (Nat × List (Nat × It))) (K : AS → Prop) (s : AS) : CRest P T fx bl ops tmF fin rest K s = sxC P T fx bl ops tmF fin rest s K := nrf rfl
theorem CNx_x (ops : List Oper) (tmF : List AV) (fin : List (Nat × It)) (rest : List (Nat × List (Nat × It))) (K : AS → Prop) (s : AS) : CNx P T fx bl ops tmF fin rest K s = sxRe P T fx ops tmF (pend rest fin) (clr s (pend rest fin)) (CRest P T fx bl ops tmF fin rest K) := nrf rfl
theorem CGo_x (ops : List Oper) (tmF : List AV) (fin new : List (Nat × It)) (rest : List (Nat × List (Nat × It))) (s : AS) (K : AS → Prop) (dst : Option Tmp) (op : Op) (ty : TypeId) (pos : String) (after : Array Edge) (g : Option (Nat × Bool)) :
    CGo P T fx bl ops tmF fin new rest s K { dst := dst, op := op, type := ty, pos := pos, after := after, guard := g } = aOp P T fx bl { dst := dst, op := op, type := ty, pos := pos, after := after, guard := g } (addI T tmF s new) (CNx P T fx bl ops tmF fin rest K) := nrf rfl
theorem sxC_nil (ops : List Oper) (tmF : List AV) (fin : List (Nat × It)) (s : AS) (K : AS → Prop) : sxC P T fx bl ops tmF fin [] s K = K (addI T tmF s fin) := nrf rfl
theorem sxC_cons (ops : List Oper) (tmF : List AV) (fin new : List (Nat × It)) (c : Nat) (rest : List (Nat × List (Nat × It))) (s : AS) (K : AS → Prop) : sxC P T fx bl ops tmF fin ((c, new) :: rest) s K = Opt ops[c]? (CGo P T fx bl ops tmF fin new rest s K) := by
  simp only [sxC, Opt]
  cases ops[c]? with
  | none => simp
  | some o => simp [CGo]; exact Iff.rfl

theorem clr_nil (s : AS) : clr s [] = s := nrf rfl
theorem clr_f (s : AS) (i : Nat) (d : Tmp) (l : List (Nat × It)) : clr s ((i, .f d) :: l) = clr (s.put (some d) .any) l := nrf rfl
theorem clr_a (s : AS) (i : Nat) (d : Tmp) (e : TypeId) (l : List (Nat × It)) : clr s ((i, .a d e) :: l) = clr (s.put (some d) .any) l := nrf rfl
theorem addI_nil (tmF : List AV) (s : AS) : addI T tmF s [] = s := nrf rfl
theorem addI_f (tmF : List AV) (s : AS) (i : Nat) (d : Tmp) (l : List (Nat × It)) : addI T tmF s ((i, .f d) :: l) = addI T tmF (s.put (some d) (tmF.getD d .any)) l := nrf rfl
theorem addI_a (tmF tm : List AV) (L : List OB) (i : Nat) (d : Tmp) (e : TypeId) (l : List (Nat × It)) : addI T tmF ⟨tm, L⟩ ((i, .a d e) :: l) = addI T tmF ⟨tm.set d (.ptr L.length 0), L ++ [.cells ((T e).zero.map AV.val)]⟩ l := nrf rfl
theorem pend_nil (fin : List (Nat × It)) : pend [] fin = fin := nrf rfl
theorem pend_cons (c : Nat) (new : List (Nat × It)) (rest : List (Nat × List (Nat × It))) (fin : List (Nat × It)) : pend ((c, new) :: rest) fin = new ++ pend rest fin := nrf rfl

theorem ft_any (p : Nat → Bool) : AV.filt p .any = .any := by simp [AV.filt]
theorem ft_val (p : Nat → Bool) (v : Value) : AV.filt p (.val v) = .val v := by simp [AV.filt]
theorem ft_sl (p : Nat → Bool) (es : List (List AV)) : AV.filt p (.sl es) = .sl es := by simp [AV.filt]
theorem ft_ip (p : Nat → Bool) (cs : List AV) : AV.filt p (.ip cs) = .ip cs := by simp [AV.filt]
theorem ft_agg (p : Nat → Bool) (l : List AV) : AV.filt p (.agg l) = .agg (filtL p l) := by simp [AV.filt]
theorem ft_tup (p : Nat → Bool) (l : List AV) : AV.filt p (.tup l) = .tup (filtL p l) := by simp [AV.filt]
theorem ft_fn (p : Nat → Bool) (f : FuncId) (l : List AV) : AV.filt p (.fn f l) = .fn f (filtL p l) := by simp [AV.filt]
theorem ft_ptr (p : Nat → Bool) (r off : Nat) : AV.filt p (.ptr r off) = cond (p r) (.ptr r off) .any := by simp only [AV.filt]; cases p r <;> rfl
theorem ft_vp (p : Nat → Bool) (r k i off : Nat) : AV.filt p (.vp r k i off) = cond (p r) (.vp r k i off) .any := by simp only [AV.filt]; cases p r <;> rfl
theorem ft_os (p : Nat → Bool) (r k off n : Nat) : AV.filt p (.os r k off n) = cond (p r) (.os r k off n) .any := by simp only [AV.filt]; cases p r <;> rfl
theorem ftL_nil (p : Nat → Bool) : filtL p [] = [] := nrf rfl
theorem ftL_cons (p : Nat → Bool) (x : AV) (l : List AV) : filtL p (x :: l) = x.filt p :: filtL p l := nrf rfl

/-! ### Calls that are handed own blocks -/

def keepRs (ms : List Nat) (r : Nat) : Bool := !inR ms r
theorem keepRs_x (ms : List Nat) (r : Nat) : keepRs ms r = !inR ms r := nrf rfl

theorem acall_own {f : FuncId} {args argsC : List AV} {L0 : List OB} {fxc : List Nat} {R : AV → List OB → Prop} (h : ACalls P f args L0 fxc R) (rs ms : List Nat) {s : AS} (hk : keepL (nameIn rs s.L.length) s.L rs L0) (hn : rs.Nodup)
    (hfx : (rs.zipIdx.all fun p => !fx.contains p.1 || fxc.contains p.2) = true) (hm : movedBy rs fxc = ms) (hargs : argsC = args.map (AV.ren (nameIn rs s.L.length))) {K : AV → AS → Prop}
    (hK : ∀ res L', R res L' → K (res.ren (nameIn rs s.L.length)) ⟨s.tm.map (AV.filt (keepRs ms)), setAll (s.L.map (OB.filt (keepRs ms))) rs (L'.map (OB.ren (nameIn rs s.L.length))) ++ (L'.drop rs.length).map (OB.ren (nameIn rs s.L.length))⟩) : ACall P fx (.fn f []) argsC s K :=
  acall_ks h rs hk hn hfx hargs fun res L' hR => by
    have e : (fun r => !(movedBy rs fxc).contains r) = keepRs ms := by
      funext r
      rw [hm, keepRs]
      congr 1
      rw [Bool.eq_iff_iff, inR_mem]
      simp
    have := hK res L' hR
    simp only [AS.back, e]
    exact this

theorem of_any (p : Nat → Bool) (cs : List AV) : OB.filt p (.cells cs) = .cells (filtL p cs) := by simp [OB.filt, filtL_map]
theorem of_vec (p : Nat → Bool) (k : Nat) (es : List (List AV)) : OB.filt p (.vec k es) = .vec k es := nrf rfl
theorem of_dead (p : Nat → Bool) : OB.filt p .dead = .dead := nrf rfl
theorem of_forest (p : Nat → Bool) (S : Nat → Prop) (l : List (Value × AV)) : OB.filt p (.forest S l) = .forest S l := nrf rfl
theorem or_forest (σ : Nat → Nat) (S : Nat → Prop) (l : List (Value × AV)) : OB.ren σ (.forest S l) = .forest S l := nrf rfl
theorem or_cells (σ : Nat → Nat) (cs : List AV) : OB.ren σ (.cells cs) = .cells (renL σ cs) := by simp [OB.ren, renL_map]
theorem or_vec (σ : Nat → Nat) (k : Nat) (es : List (List AV)) : OB.ren σ (.vec k es) = .vec k es := nrf rfl
theorem or_dead (σ : Nat → Nat) : OB.ren σ .dead = .dead := nrf rfl
theorem rn_any (σ : Nat → Nat) : AV.ren σ .any = .any := by simp [AV.ren]
theorem rn_val (σ : Nat → Nat) (v : Value) : AV.ren σ (.val v) = .val v := by simp [AV.ren]
theorem rn_sl (σ : Nat → Nat) (es : List (List AV)) : AV.ren σ (.sl es) = .sl es := by simp [AV.ren]
theorem rn_ip (σ : Nat → Nat) (cs : List AV) : AV.ren σ (.ip cs) = .ip cs := by simp [AV.ren]
theorem rn_agg (σ : Nat → Nat) (l : List AV) : AV.ren σ (.agg l) = .agg (renL σ l) := by simp [AV.ren]
theorem rn_tup (σ : Nat → Nat) (l : List AV) : AV.ren σ (.tup l) = .tup (renL σ l) := by simp [AV.ren]
theorem rn_fn (σ : Nat → Nat) (f : FuncId) (l : List AV) : AV.ren σ (.fn f l) = .fn f (renL σ l) := by simp [AV.ren]
theorem rn_ptr (σ : Nat → Nat) (r off : Nat) : AV.ren σ (.ptr r off) = .ptr (σ r) off := by simp [AV.ren]
theorem rn_vp (σ : Nat → Nat) (r k i off : Nat) : AV.ren σ (.vp r k i off) = .vp (σ r) k i off := by simp [AV.ren]
theorem rn_os (σ : Nat → Nat) (r k off n : Nat) : AV.ren σ (.os r k off n) = .os (σ r) k off n := by simp [AV.ren]
theorem rnL_nil (σ : Nat → Nat) : renL σ [] = [] := nrf rfl
theorem rnL_cons (σ : Nat → Nat) (x : AV) (l : List AV) : renL σ (x :: l) = x.ren σ :: renL σ l := nrf rfl
theorem nameIn_x (rs : List Nat) (m j : Nat) : nameIn rs m j = rs.getD j (m + (j - rs.length)) := nrf rfl
theorem setAll_nil (L os : List OB) : setAll L [] os = L := by simp [setAll]
theorem setAll_cons (L os : List OB) (r : Nat) (rs : List Nat) (o : OB) : setAll L (r :: rs) (o :: os) = setAll (L.set r o) rs os := nrf rfl
theorem keepL_nil (σ : Nat → Nat) (L : List OB) : keepL σ L [] [] = True := nrf rfl
theorem keepL_cons (σ : Nat → Nat) (L : List OB) (r : Nat) (ks : List Nat) (o : OB) (os : List OB) : keepL σ L (r :: ks) (o :: os) = (L[r]? = some (o.ren σ) ∧ keepL σ L ks os) := nrf rfl
theorem freeL_rend (σ : Nat → Nat) {l : List AV} (h : freeL l = true) : renL σ l = l := freeL_ren σ l h

theorem kill_x (r : Nat) (tm : List AV) (L : List OB) : AS.kill r ⟨tm, L⟩ = ⟨tm.map (AV.filt (keepRs [r])), L.map (OB.filt (keepRs [r]))⟩ := by
  have e : (fun r' : Nat => r' != r) = keepRs [r] := by
    funext r'
    simp [keepRs, inR, bne, BEq.comm]
  have e2 : OB.kill r = OB.filt (keepRs [r]) := by
    funext o
    rw [← e]
    cases o <;> rfl
  simp only [AS.kill, e, e2]

/-- A nil slice handed over first is an own row with nothing in it. -/
theorem acall_nil0 {f : FuncId} {rest : List AV} {s : AS} {K : AV → AS → Prop} (k : Nat) (hk : 0 < k) (h : ACall P fx (.fn f []) (.os s.L.length k 0 0 :: rest) (s.push (.vec k [])) K) : ACall P fx (.fn f []) (.val (.slice none 0 0) :: rest) s K := by
  refine acall_wk (t := s.push (.vec k [])) (by simp) ?_ h
  have := wk_nil (fx := fx) (s := { s with tm := s.tm ++ (.val (.slice none 0 0) :: rest) }) s.tm.length k hk (by simp)
  simpa [AS.push] using this

/-- An own row, whole, is handed back as an immutable one. -/
theorem fin_row {R : AV → List OB → Prop} {s : AS} {r k n : Nat} {es : List (List AV)} (hL : s.L[r]? = some (.vec k es)) (hn : n = es.length) (hR : R (.sl es) []) : Fin [] 0 R s (.os r k 0 n) := by
  refine fin_frz hL (by simp) ?_
  have e : AV.frz r k es (.os r k 0 n) = .sl es := by
    simp only [AV.frz, if_true, Nat.zero_add, true_and]
    rw [if_pos (by omega), List.drop_zero, List.take_of_length_le (by omega)]
  rw [e]
  exact fin_free rfl hR
/-- The same for a function with captured variables. -/
theorem acall_cl {f : FuncId} {caps args argsC : List AV} {L0 : List OB} {fxc : List Nat} {R : AV → List OB → Prop} (h : ACalls P f args L0 fxc R) (rs ms : List Nat) {s : AS} (hk : keepL (nameIn rs s.L.length) s.L rs L0) (hn : rs.Nodup)
    (hfx : (rs.zipIdx.all fun p => !fx.contains p.1 || fxc.contains p.2) = true) (hm : movedBy rs fxc = ms) (hargs : argsC ++ caps = args.map (AV.ren (nameIn rs s.L.length))) {K : AV → AS → Prop}
    (hK : ∀ res L', R res L' → K (res.ren (nameIn rs s.L.length)) ⟨s.tm.map (AV.filt (keepRs ms)), setAll (s.L.map (OB.filt (keepRs ms))) rs (L'.map (OB.ren (nameIn rs s.L.length))) ++ (L'.drop rs.length).map (OB.ren (nameIn rs s.L.length))⟩) : ACall P fx (.fn f caps) argsC s K :=
  acall h s rs hn (keepL_in hk).1 (keepL_in hk).2 (fun j r hj hr => by
    have := List.all_eq_true.1 hfx (r, j) (List.mem_zipIdx_iff_getElem?.2 hj)
    simp only [Bool.or_eq_true, Bool.not_eq_true', List.contains_eq_mem, decide_eq_true_eq, decide_eq_false_iff_not] at this
    rcases this with h1 | h1
    · exact absurd hr h1
    · exact h1) hargs fun res L' hR _ => by
    have e : (fun r => !(movedBy rs fxc).contains r) = keepRs ms := by
      funext r
      rw [hm, keepRs]
      congr 1
      rw [Bool.eq_iff_iff, inR_mem]
      simp
    have := hK res L' hR
    simp only [AS.back, e]
    exact this

/-- The place of the first one that is meant, -1 if there is none. -/
def ixOf {α : Type} (g : α → Bool) (l : List α) : Int := match l.findIdx? g with | some i => i | none => -1
theorem ixOf_at {α : Type} {g : α → Bool} {l : List α} {i : Nat} {x : α} (hx : l[i]? = some x) (h1 : ∀ p ∈ l.take i, g p = false) (h2 : g x = true) : ixOf g l = i := by
  have hi := (List.getElem?_eq_some_iff.1 hx)
  obtain ⟨hi, he⟩ := hi
  have : l.findIdx? g = some i := by
    rw [List.findIdx?_eq_some_iff_getElem]
    refine ⟨hi, by rw [he]; exact h2, fun j hj => ?_⟩
    have := h1 l[j] (List.mem_take_iff_getElem.2 ⟨j, by omega, rfl⟩)
    simp [this]
  simp [ixOf, this]
theorem ixOf_none {α : Type} {g : α → Bool} {l : List α} (h : ∀ p ∈ l, g p = false) : ixOf g l = -1 := by
  have : l.findIdx? g = none := List.findIdx?_eq_none_iff.2 h
  simp [ixOf, this]

end

end Go.Pc
