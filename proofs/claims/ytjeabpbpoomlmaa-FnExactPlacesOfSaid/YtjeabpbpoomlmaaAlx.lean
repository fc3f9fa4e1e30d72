/- The abstract logic, sixth part: calls and contracts. -/
import Derived.Test.YtjeabpbpoomlmaaAla
set_option linter.unusedSimpArgs false
set_option linter.unusedVariables false
namespace Go.Pc
open Go

section
variable {P : Program} {T : TypeId → Ty}

/-- A call of function f enters its body. -/
def Enters (P : Program) (f : FuncId) : Prop := ∀ args w, (callFunc f args).run P w = .ok (.enter f args) w

theorem enters_of {f : FuncId} {fn : Func} (hf : P.funcs[f]? = some fn) (hn : (fn.name == "runtime.NumGoroutine") = false) (hb : fn.body.isNone = false) : Enters P f := fun args w => by
  simp only [callFunc, Sem.run_bind, run_program, Result.andThen_ok, hf, hn, hb, Bool.false_eq_true, if_false, Sem.run_pure]

/-- The contract of a function: called with such arguments and such own blocks, it returns; R tells the result and the own blocks behind the call. All other memory stays as it was. -/
def ACalls (P : Program) (f : FuncId) (args : List AV) (L0 : List OB) (fx : List Nat) (R : AV → List OB → Prop) : Prop :=
  Enters P f ∧ ∀ (ρ : Env) (w : World) (vs : Array Value), HR w ρ L0 → vs.size = args.length → (∀ (i : Nat) v x, vs[i]? = some v → args[i]? = some x → VR w ρ v x) →
    Calls P f vs w (fun e w' => ∃ v res L' ρ', e = .returned v ∧ R res L' ∧ L0.length ≤ L'.length ∧ VR w' ρ' v res ∧ HR w' ρ' L' ∧ St fx ρ w ρ' w')

theorem ACalls.mono {f : FuncId} {args : List AV} {L0 : List OB} {fx : List Nat} {R R' : AV → List OB → Prop} (h : ACalls P f args L0 fx R) (hh : ∀ r L, R r L → R' r L) : ACalls P f args L0 fx R' :=
  ⟨h.1, fun ρ w vs h1 h2 h3 => (h.2 ρ w vs h1 h2 h3).mono fun _ _ ⟨v, res, L', ρ', e, hr, g⟩ => ⟨v, res, L', ρ', e, hh _ _ hr, g⟩⟩

/-- A call in a body, with what comes behind it. -/
def ACall (P : Program) (fx : List Nat) (f : AV) (args : List AV) (s : AS) (K : AV → AS → Prop) : Prop :=
  ∀ (ρ : Env) (a : Act) (w : World) (vf : Value) (vs : Array Value), Rel ρ s a w → VR w ρ vf f → vs.size = args.length → (∀ (i : Nat) v x, vs[i]? = some v → args[i]? = some x → VR w ρ v x) →
    Out P (fun v w' => ∃ r s' ρ', K r s' ∧ Rel ρ' s' a w' ∧ VR w' ρ' v r ∧ St fx ρ w ρ' w') ((do let d ← Deferred.ofValue vf vs; invoke d.target d.args : Sem Next).run P w)

def OB.ren (σ : Nat → Nat) : OB → OB
  | .cells cs => .cells (cs.map (AV.ren σ))
  | .vec k es => .vec k es
  | .dead => .dead
  | .forest S items => .forest S items

def OB.filt (p : Nat → Bool) : OB → OB
  | .cells cs => .cells (cs.map (AV.filt p))
  | o => o

theorem EntR.ren {w : World} {ρ ρ' : Env} {l : Option (Nat × Nat)} {o : OB} (h : EntR w ρ l o) (σ : Nat → Nat) (hσ : ∀ (r : Nat) l, ρ.l[r]? = some l → ρ'.l[σ r]? = some l) (ho : ∀ b, b < w.heap.size → no ρ' b → no ρ b) : EntR w ρ' l (o.ren σ) := by
  cases o with
  | dead => exact h
  | cells cs =>
    obtain ⟨b, c, e, h1, h2, h3, h4⟩ := h
    refine ⟨b, c, e, h1, h2, by simpa using h3, fun i v x h5 h6 => ?_⟩
    rw [List.getElem?_map] at h6
    cases hq : cs[i]? with
    | none => simp [hq] at h6
    | some y => simp [hq] at h6; subst h6; exact (h4 i v y h5 hq).ren σ hσ ho
  | vec k es =>
    obtain ⟨h0, hl, hd⟩ := h
    refine ⟨h0, hl, ?_⟩
    rcases hd with hd | ⟨b, base, c, e, h1, h2, h3, h4⟩
    · exact .inl hd
    · exact .inr ⟨b, base, c, e, h1, h2, h3, fun i j ei x h5 h6 => let ⟨v, h7, h8⟩ := h4 i j ei x h5 h6; ⟨v, h7, h8.mono (fun _ _ _ => rfl) (Nat.le_refl _) ho⟩⟩
  | forest S items => exact h

theorem EntR.unren {w : World} {ρ ρ' : Env} {l : Option (Nat × Nat)} {o : OB} (σ : Nat → Nat) (h : EntR w ρ l (o.ren σ)) (hσ : ∀ (r : Nat) l, ρ.l[σ r]? = some l → ρ'.l[r]? = some l) (ho : ∀ b, b < w.heap.size → no ρ' b → no ρ b) : EntR w ρ' l o := by
  cases o with
  | dead => exact h
  | cells cs =>
    obtain ⟨b, c, e, h1, h2, h3, h4⟩ := h
    refine ⟨b, c, e, h1, h2, by simpa using h3, fun i v x h5 h6 => ?_⟩
    exact VR.unren σ hσ ho x v (h4 i v _ h5 (by rw [List.getElem?_map, h6]; rfl))
  | vec k es =>
    obtain ⟨h0, hl, hd⟩ := h
    refine ⟨h0, hl, ?_⟩
    rcases hd with hd | ⟨b, base, c, e, h1, h2, h3, h4⟩
    · exact .inl hd
    · exact .inr ⟨b, base, c, e, h1, h2, h3, fun i j ei x h5 h6 => let ⟨v, h7, h8⟩ := h4 i j ei x h5 h6; ⟨v, h7, h8.mono (fun _ _ _ => rfl) (Nat.le_refl _) ho⟩⟩
  | forest S items => exact h

/-- The names that a callee's own blocks have in the caller: the first ones are those that were handed over. -/
def nameIn (rs : List Nat) (m : Nat) (j : Nat) : Nat := rs.getD j (m + (j - rs.length))

/-- Handed over, and perhaps moved. -/
def movedBy (rs fxc : List Nat) : List Nat := (rs.zipIdx.filter fun p => !fxc.contains p.2).map (·.1)

/-- The caller's blocks behind the call. -/
def setAll (L : List OB) : List Nat → List OB → List OB
  | r :: rs, o :: os => setAll (L.set r o) rs os
  | _, _ => L

def setLocs (l : List (Option (Nat × Nat))) : List Nat → List (Option (Nat × Nat)) → List (Option (Nat × Nat))
  | r :: rs, o :: os => setLocs (l.set r o) rs os
  | _, _ => l

theorem setAll_len : ∀ (rs : List Nat) (os : List OB) (L : List OB), (setAll L rs os).length = L.length
  | [], _, L => by simp [setAll]
  | r :: rs, [], L => by simp [setAll]
  | r :: rs, o :: os, L => by simp [setAll, setAll_len rs os]

theorem setLocs_len : ∀ (rs : List Nat) (os : List (Option (Nat × Nat))) (L : List (Option (Nat × Nat))), (setLocs L rs os).length = L.length
  | [], _, L => by simp [setLocs]
  | r :: rs, [], L => by simp [setLocs]
  | r :: rs, o :: os, L => by simp [setLocs, setLocs_len rs os]

theorem setAll_out : ∀ (rs : List Nat) (os : List OB) (L : List OB) (r : Nat), r ∉ rs → (setAll L rs os)[r]? = L[r]?
  | [], _, L, r, _ => by simp [setAll]
  | r' :: rs, [], L, r, _ => by simp [setAll]
  | r' :: rs, o :: os, L, r, h => by
    simp only [List.mem_cons, not_or] at h
    rw [setAll, setAll_out rs os _ r h.2, List.getElem?_set_ne (fun e => h.1 e.symm)]

theorem setLocs_out : ∀ (rs : List Nat) (os : List (Option (Nat × Nat))) (L : List (Option (Nat × Nat))) (r : Nat), r ∉ rs → (setLocs L rs os)[r]? = L[r]?
  | [], _, L, r, _ => by simp [setLocs]
  | r' :: rs, [], L, r, _ => by simp [setLocs]
  | r' :: rs, o :: os, L, r, h => by
    simp only [List.mem_cons, not_or] at h
    rw [setLocs, setLocs_out rs os _ r h.2, List.getElem?_set_ne (fun e => h.1 e.symm)]

theorem setAll_in : ∀ (rs : List Nat) (os : List OB) (L : List OB) (j r : Nat), rs.Nodup → rs[j]? = some r → r < L.length → rs.length ≤ os.length → (setAll L rs os)[r]? = os[j]?
  | [], _, _, j, r, _, h, _, _ => by simp at h
  | r' :: rs, [], _, _, _, _, _, _, hl => by simp at hl
  | r' :: rs, o :: os, L, 0, r, hn, h, hr, hl => by
    simp at h
    subst h
    rw [List.nodup_cons] at hn
    rw [setAll, setAll_out rs os _ _ hn.1, List.getElem?_set_self hr]
    rfl
  | r' :: rs, o :: os, L, j + 1, r, hn, h, hr, hl => by
    rw [List.nodup_cons] at hn
    rw [setAll, setAll_in rs os _ j r hn.2 (by simpa using h) (by simpa using hr) (by simpa using hl)]
    rfl

theorem setLocs_in : ∀ (rs : List Nat) (os : List (Option (Nat × Nat))) (L : List (Option (Nat × Nat))) (j r : Nat), rs.Nodup → rs[j]? = some r → r < L.length → rs.length ≤ os.length → (setLocs L rs os)[r]? = os[j]?
  | [], _, _, j, r, _, h, _, _ => by simp at h
  | r' :: rs, [], _, _, _, _, _, _, hl => by simp at hl
  | r' :: rs, o :: os, L, 0, r, hn, h, hr, hl => by
    simp at h
    subst h
    rw [List.nodup_cons] at hn
    rw [setLocs, setLocs_out rs os _ _ hn.1, List.getElem?_set_self hr]
    rfl
  | r' :: rs, o :: os, L, j + 1, r, hn, h, hr, hl => by
    rw [List.nodup_cons] at hn
    rw [setLocs, setLocs_in rs os _ j r hn.2 (by simpa using h) (by simpa using hr) (by simpa using hl)]
    rfl

def AS.back (s : AS) (rs fxc : List Nat) (L' : List OB) : AS :=
  { tm := s.tm.map (AV.filt fun r => !(movedBy rs fxc).contains r),
    L := setAll (s.L.map (OB.filt fun r => !(movedBy rs fxc).contains r)) rs (L'.map (OB.ren (nameIn rs s.L.length))) ++ (L'.drop rs.length).map (OB.ren (nameIn rs s.L.length)) }

theorem mem_moved {rs fxc : List Nat} (hn : rs.Nodup) {j r : Nat} (hj : rs[j]? = some r) : r ∈ movedBy rs fxc ↔ j ∉ fxc := by
  simp only [movedBy, List.mem_map, List.mem_filter, Bool.not_eq_true', List.contains_eq_mem, decide_eq_false_iff_not]
  constructor
  · rintro ⟨⟨r', j'⟩, ⟨h1, h2⟩, h3⟩
    simp only at h3 h2
    subst h3
    have hj' := List.mem_zipIdx_iff_getElem?.1 h1
    simp only at hj'
    have h4 : j' < rs.length := (List.getElem?_eq_some_iff.1 hj').1
    have : j' = j := (List.getElem?_inj h4 hn).1 (hj'.trans hj.symm)
    rw [← this]
    exact h2
  · intro h
    exact ⟨(r, j), ⟨List.mem_zipIdx_iff_getElem?.2 hj, h⟩, rfl⟩

theorem not_moved {rs fxc : List Nat} {r : Nat} (h : r ∉ rs) : r ∉ movedBy rs fxc := by
  simp only [movedBy, List.mem_map, List.mem_filter]
  rintro ⟨⟨r', j'⟩, ⟨h1, _⟩, h3⟩
  simp only at h3
  subst h3
  exact h (List.mem_of_getElem? (List.mem_zipIdx_iff_getElem?.1 h1))

/-- THE RULE FOR A CALL. -/
theorem acall {fx : List Nat} {f : FuncId} {caps args argsC : List AV} {L0 : List OB} {fxc : List Nat} {R : AV → List OB → Prop} (h : ACalls P f args L0 fxc R) (s : AS) (rs : List Nat) (hn : rs.Nodup) (hlen : rs.length = L0.length)
    (hL : ∀ (j r : Nat) o, rs[j]? = some r → L0[j]? = some o → s.L[r]? = some (o.ren (nameIn rs s.L.length))) (hfx : ∀ j r : Nat, rs[j]? = some r → r ∈ fx → j ∈ fxc)
    (hargs : argsC ++ caps = args.map (AV.ren (nameIn rs s.L.length))) {K : AV → AS → Prop} (hK : ∀ res L', R res L' → L0.length ≤ L'.length → K (res.ren (nameIn rs s.L.length)) (s.back rs fxc L')) :
    ACall P fx (.fn f caps) argsC s K := by
  intro ρ a w vf vs hr hvf hvl hv
  obtain ⟨hent, hcalls⟩ := h
  cases hvf with
  | pr hp => cases hp
  | fn f cv _ hs hc =>
  simp only [Deferred.ofValue, Sem.run_bind, Sem.run_pure, Result.andThen_ok, invoke, Array.empty_append]
  rw [hent]
  simp only [Out]
  have hrlt : ∀ (j r : Nat), rs[j]? = some r → r < s.L.length := fun j r hj => by
    have hj' : j < rs.length := (List.getElem?_eq_some_iff.1 hj).1
    have := hL j r (L0[j]'(by omega)) hj (List.getElem?_eq_getElem _)
    exact (List.getElem?_eq_some_iff.1 this).1
  have hρl : ρ.l.length = s.L.length := hr.hr.len
  let lc : List (Option (Nat × Nat)) := rs.map fun r => ρ.l.getD r none
  let Tc : Nat → Prop := fun b => ∃ (j r : Nat) (S : Nat → Prop) (items : List (Value × AV)), rs[j]? = some r ∧ s.L[r]? = some (.forest S items) ∧ S b
  let ρc : Env := { l := lc, X := fun b => no ρ b ∧ ¬ ((∃ (r base : Nat), lc[r]? = some (some (b, base))) ∨ Tc b), T := Tc }
  have hTc : ∀ b, Tc b → ρ.T b := fun b ⟨_, r, S, items, _, h2, h3⟩ => hr.hr.t.sub r S items b h2 h3
  have hget : ∀ (j r : Nat), rs[j]? = some r → ∃ l, ρ.l[r]? = some l ∧ ρc.l[j]? = some l := fun j r hj => by
    have h1 : r < ρ.l.length := by rw [hρl]; exact hrlt j r hj
    refine ⟨ρ.l[r], List.getElem?_eq_getElem h1, ?_⟩
    simp only [ρc, lc, List.getElem?_map, hj, Option.map_some, List.getD_eq_getElem?_getD, List.getElem?_eq_getElem h1, Option.getD_some]
  have hnamelt : ∀ j, rs.length ≤ j → s.L.length ≤ nameIn rs s.L.length j := fun j hj => by
    simp only [nameIn, List.getD_eq_getElem?_getD, List.getElem?_eq_none hj, Option.getD_none]; omega
  have hnamein : ∀ (j r : Nat), rs[j]? = some r → nameIn rs s.L.length j = r := fun j r hj => by
    simp only [nameIn, List.getD_eq_getElem?_getD, hj, Option.getD_some]
  have hback : ∀ (j : Nat) l, ρ.l[nameIn rs s.L.length j]? = some l → ρc.l[j]? = some l := fun j l hl => by
    by_cases hj : j < rs.length
    · have hj' := List.getElem?_eq_getElem hj
      obtain ⟨l', h1, h2⟩ := hget j _ hj'
      rw [hnamein j _ hj', h1] at hl
      cases hl
      exact h2
    · have := hnamelt j (by omega)
      rw [List.getElem?_eq_none (by omega)] at hl
      cases hl
  have hlc : ∀ {j b base : Nat}, lc[j]? = some (some (b, base)) → ∃ r, rs[j]? = some r ∧ ρ.l[r]? = some (some (b, base)) := fun {j b base} hj => by
    simp only [lc, List.getElem?_map] at hj
    cases hq : rs[j]? with
    | none => simp [hq] at hj
    | some r =>
      obtain ⟨l, h1, h2⟩ := hget j r hq
      have : ρc.l[j]? = some (some (b, base)) := by simp only [ρc, lc, List.getElem?_map]; exact hj
      rw [h2] at this
      cases this
      exact ⟨r, rfl, h1⟩
  have hownc : ∀ b, own ρc b → own ρ b := fun b hb => by
    rcases hb with ⟨j, base, hj⟩ | hb
    · obtain ⟨r, _, h1⟩ := hlc hj
      exact .l h1
    · exact .inr (hTc b hb)
  have hnoc : ∀ b, no ρc b → no ρ b := fun b hb => by
    rcases hb with hb | hb
    · exact .inl (hownc b hb)
    · exact hb.1
  have hHR : HR w ρc L0 := by
    refine ⟨by simp [ρc, lc, hlen], fun b hb => ?_, fun b hb hx => hx.2 hb, fun j j' b base base' h1 h2 => ?_, fun j o l h1 h2 => ?_, ⟨fun b hb => hr.hr.t.lt b (hTc b hb), fun b j base hb hj => ?_, fun j S items b hj hS => ?_, fun j j' S S' items items' b hj hj' hS hS' => ?_⟩⟩
    · rcases hb.1 with hb | hb
      · exact own_lt hr.hr hb
      · exact hr.hr.xlt b hb
    · have hj : j < rs.length := by
        rcases Nat.lt_or_ge j rs.length with h' | h'
        · exact h'
        · rw [List.getElem?_eq_none (by simpa [ρc, lc] using h')] at h1; cases h1
      have hj' : j' < rs.length := by
        rcases Nat.lt_or_ge j' rs.length with h' | h'
        · exact h'
        · rw [List.getElem?_eq_none (by simpa [ρc, lc] using h')] at h2; cases h2
      obtain ⟨l, p1, p2⟩ := hget j _ (List.getElem?_eq_getElem hj)
      obtain ⟨l', q1, q2⟩ := hget j' _ (List.getElem?_eq_getElem hj')
      rw [h1] at p2; cases p2
      rw [h2] at q2; cases q2
      have := hr.hr.inj _ _ _ _ _ p1 q1
      exact (List.getElem?_inj hj hn).1 (by rw [List.getElem?_eq_getElem hj, List.getElem?_eq_getElem hj', this])
    · have hj : j < rs.length := by
        rcases Nat.lt_or_ge j rs.length with h' | h'
        · exact h'
        · rw [List.getElem?_eq_none (by omega)] at h1; cases h1
      obtain ⟨l', p1, p2⟩ := hget j _ (List.getElem?_eq_getElem hj)
      rw [h2] at p2; cases p2
      exact EntR.unren (nameIn rs s.L.length) (hr.hr.ent _ _ _ (hL j _ o (List.getElem?_eq_getElem hj) h1) p1) hback (fun b _ hb => hnoc b hb)
    · obtain ⟨r, _, h1⟩ := hlc hj
      exact hr.hr.t.dl b r base (hTc b hb) h1
    · have hj' : j < rs.length := by have := (List.getElem?_eq_some_iff.1 hj).1; omega
      exact ⟨j, _, S, items, List.getElem?_eq_getElem hj', hL j _ _ (List.getElem?_eq_getElem hj') hj, hS⟩
    · have k1 : j < rs.length := by have := (List.getElem?_eq_some_iff.1 hj).1; omega
      have k2 : j' < rs.length := by have := (List.getElem?_eq_some_iff.1 hj').1; omega
      have := hr.hr.t.dis _ _ S S' items items' b (hL j _ _ (List.getElem?_eq_getElem k1) hj) (hL j' _ _ (List.getElem?_eq_getElem k2) hj') hS hS'
      exact (List.getElem?_inj k1 hn).1 (by rw [List.getElem?_eq_getElem k1, List.getElem?_eq_getElem k2, this])
  have hargl : argsC.length + caps.length = args.length := by
    have := congrArg List.length hargs
    simpa using this
  refine (hcalls ρc w (vs ++ cv) hHR (by simp; omega) fun i v x h1 h2 => ?_).mono fun e w' ⟨v, res, L', ρ', he, hR, hle, hvr, hhr, hst⟩ => ?_
  · have h3 : (argsC ++ caps)[i]? = some (x.ren (nameIn rs s.L.length)) := by rw [hargs, List.getElem?_map, h2]; rfl
    refine VR.unren _ hback (fun b _ hb => hnoc b hb) x v ?_
    by_cases hi : i < vs.size
    · rw [Array.getElem?_append_left hi] at h1
      rw [List.getElem?_append_left (by omega)] at h3
      exact hv i v _ h1 h3
    · rw [Array.getElem?_append_right (by omega)] at h1
      rw [List.getElem?_append_right (by omega)] at h3
      rw [← hvl] at h3
      exact hc _ v _ h1 h3
  · -- behind the call
    refine ⟨v, he, res.ren (nameIn rs s.L.length), s.back rs fxc L', { l := setLocs ρ.l rs ρ'.l ++ ρ'.l.drop rs.length, X := ρ.X, T := fun b => (ρ.T b ∧ ¬ Tc b) ∨ ρ'.T b }, hK res L' hR hle, ?_⟩
    generalize hρn : ({ l := setLocs ρ.l rs ρ'.l ++ ρ'.l.drop rs.length, X := ρ.X, T := fun b => (ρ.T b ∧ ¬ Tc b) ∨ ρ'.T b } : Env) = ρn
    have nT : ∀ b, ρn.T b ↔ ((ρ.T b ∧ ¬ Tc b) ∨ ρ'.T b) := fun b => by rw [← hρn]
    have hrl' : rs.length ≤ ρ'.l.length := by rw [hhr.len]; omega
    have hX : ∀ b, ρ'.X b ↔ no ρ b ∧ ¬ own ρc b := fun b => by rw [hst.x]; exact Iff.rfl
    have nl : ρn.l = setLocs ρ.l rs ρ'.l ++ ρ'.l.drop rs.length := by rw [← hρn]
    have nX : ρn.X = ρ.X := by rw [← hρn]
    have nin : ∀ (j r : Nat), rs[j]? = some r → ρn.l[r]? = ρ'.l[j]? := fun j r hj => by
      have h1 : r < ρ.l.length := by rw [hρl]; exact hrlt j r hj
      rw [nl, List.getElem?_append_left (by rw [setLocs_len]; exact h1), setLocs_in rs _ _ j r hn hj h1 hrl']
    have nout : ∀ r, r ∉ rs → r < ρ.l.length → ρn.l[r]? = ρ.l[r]? := fun r hr' h1 => by
      rw [nl, List.getElem?_append_left (by rw [setLocs_len]; exact h1), setLocs_out rs _ _ r hr']
    have nnew : ∀ r, ρ.l.length ≤ r → ρn.l[r]? = ρ'.l[rs.length + (r - ρ.l.length)]? := fun r h1 => by
      rw [nl, List.getElem?_append_right (by rw [setLocs_len]; exact h1), setLocs_len, List.getElem?_drop]
    have nname : ∀ (j : Nat) l, ρ'.l[j]? = some l → ρn.l[nameIn rs s.L.length j]? = some l := fun j l hl => by
      by_cases hj : j < rs.length
      · have hj' := List.getElem?_eq_getElem hj
        rw [hnamein j _ hj', nin j _ hj', hl]
      · have h1 : nameIn rs s.L.length j = s.L.length + (j - rs.length) := by
          simp only [nameIn, List.getD_eq_getElem?_getD, List.getElem?_eq_none (Nat.le_of_not_lt hj), Option.getD_none]
        rw [h1, nnew _ (by omega), ← hl]
        congr 1; omega
    -- where the new own blocks come from
    have nowns : ∀ r b base, ρn.l[r]? = some (some (b, base)) → (r ∉ rs ∧ ρ.l[r]? = some (some (b, base))) ∨ ∃ j, ρ'.l[j]? = some (some (b, base)) ∧ r = nameIn rs s.L.length j := fun r b base hb => by
      by_cases h1 : r < ρ.l.length
      · by_cases h2 : r ∈ rs
        · obtain ⟨j, hj, hjr⟩ := List.mem_iff_getElem.1 h2
          have hj' : rs[j]? = some r := by rw [List.getElem?_eq_getElem hj, hjr]
          rw [nin j r hj'] at hb
          exact .inr ⟨j, hb, (hnamein j r hj').symm⟩
        · rw [nout r h2 h1] at hb
          exact .inl ⟨h2, hb⟩
      · rw [nnew r (by omega)] at hb
        refine .inr ⟨_, hb, ?_⟩
        have h2 : ¬ (rs.length + (r - ρ.l.length) < rs.length) := by omega
        simp only [nameIn, List.getD_eq_getElem?_getD, List.getElem?_eq_none (Nat.le_of_not_lt h2), Option.getD_none]
        omega
    have lnot : ∀ {r b base : Nat}, r ∉ rs → ρ.l[r]? = some (some (b, base)) → ¬ own ρc b := fun {r b base} ho h hc => by
      rcases hc with ⟨j, base2, hj⟩ | hc
      · obtain ⟨q, hq, q1⟩ := hlc hj
        exact absurd (List.mem_of_getElem? hq) (hr.hr.inj _ _ _ _ _ h q1 ▸ ho)
      · exact hr.hr.t.dl b r base (hTc b hc) h
    have tnot : ∀ {b : Nat}, ρ.T b → ¬ Tc b → ¬ own ρc b := fun {b} ht hnt hc => by
      rcases hc with ⟨j, base2, hj⟩ | hc
      · obtain ⟨q, _, q1⟩ := hlc hj
        exact hr.hr.t.dl b q base2 ht q1
      · exact hnt hc
    have fnot : ∀ {r b : Nat} {S : Nat → Prop} {items : List (Value × AV)}, r ∉ rs → s.L[r]? = some (.forest S items) → S b → ¬ Tc b := fun {r b S items} ho h hS hc => by
      obtain ⟨j, q, S', items', h1, h2, h3⟩ := hc
      have := hr.hr.t.dis _ _ _ _ _ _ b h h2 hS h3
      exact ho (this ▸ List.mem_of_getElem? h1)
    have nno : ∀ b, no ρn b → no ρ' b := fun b hb => by
      rcases hb with (⟨r, base, hb⟩ | hb) | hb
      · rcases nowns r b base hb with ⟨ho, h⟩ | ⟨j, h, _⟩
        · exact .inr ((hX b).2 ⟨.inl (.l h), lnot ho h⟩)
        · exact .inl (.l h)
      · rcases (nT b).1 hb with ⟨h1, h2⟩ | h1
        · exact .inr ((hX b).2 ⟨.inl (.inr h1), tnot h1 h2⟩)
        · exact .inl (.inr h1)
      · exact .inr ((hX b).2 ⟨.inr (nX ▸ hb), fun hc => hr.hr.disj b (hownc b hc) (nX ▸ hb)⟩)
    have nsub : ∀ b, b < w.heap.size → own ρn b → own ρ b := fun b hlt hb => by
      rcases hb with ⟨r, base, hb⟩ | hb
      · rcases nowns r b base hb with ⟨_, h⟩ | ⟨j, h, _⟩
        · exact .l h
        · exact hownc b (hst.sub b hlt (.l h))
      · rcases (nT b).1 hb with ⟨h1, _⟩ | h1
        · exact .inr h1
        · exact hownc b (hst.sub b hlt (.inr h1))
    have nfor : ∀ {r : Nat} {S : Nat → Prop} {items : List (Value × AV)}, (s.back rs fxc L').L[r]? = some (.forest S items) → (r ∉ rs ∧ s.L[r]? = some (.forest S items)) ∨ ∃ j : Nat, L'[j]? = some (.forest S items) ∧ r = nameIn rs s.L.length j := fun {r S items} h1 => by
      simp only [AS.back] at h1
      by_cases hrl : r < ρ.l.length
      · rw [List.getElem?_append_left (by rw [setAll_len]; simp; omega)] at h1
        by_cases hin : r ∈ rs
        · obtain ⟨j, hj, hjr⟩ := List.mem_iff_getElem.1 hin
          have hj' : rs[j]? = some r := by rw [List.getElem?_eq_getElem hj, hjr]
          rw [setAll_in rs _ _ j r hn hj' (by simp; omega) (by simp; omega), List.getElem?_map] at h1
          cases hq : L'[j]? with
          | none => simp [hq] at h1
          | some o' =>
            cases o' <;> simp [hq, OB.ren] at h1
            exact .inr ⟨j, by rw [hq, h1.1, h1.2], (hnamein j r hj').symm⟩
        · rw [setAll_out rs _ _ r hin, List.getElem?_map] at h1
          cases hq : s.L[r]? with
          | none => simp [hq] at h1
          | some o0 =>
            cases o0 <;> simp [hq, OB.filt] at h1
            exact .inl ⟨hin, by rw [h1.1, h1.2]⟩
      · rw [List.getElem?_append_right (by rw [setAll_len]; simp; omega), setAll_len] at h1
        simp only [List.length_map, List.getElem?_map, List.getElem?_drop] at h1
        cases hq : L'[rs.length + (r - s.L.length)]? with
        | none => simp [hq] at h1
        | some o' =>
          cases o' <;> simp [hq, OB.ren] at h1
          refine .inr ⟨_, by rw [hq, h1.1, h1.2], ?_⟩
          have h2 : ¬ (rs.length + (r - s.L.length) < rs.length) := by omega
          simp only [nameIn, List.getD_eq_getElem?_getD, List.getElem?_eq_none (Nat.le_of_not_lt h2), Option.getD_none]
          omega
    have nnoρ : ∀ b, b < w.heap.size → no ρn b → no ρ b := fun b hlt hb => by
      rcases hb with hb | hb
      · exact .inl (nsub b hlt hb)
      · exact .inr (nX ▸ hb)
    have hfr : Fr (own ρ) w w' := ⟨hst.fr.le, fun b hb hno => hst.fr.same b hb fun h => hno (hownc b h), hst.fr.size, hst.fr.os, hst.fr.out, hst.fr.tape⟩
    have hstay : ∀ (r : Nat) l, (!(movedBy rs fxc).contains r) = true → ρ.l[r]? = some l → ρn.l[r]? = some l := fun r l hp hl => by
      have hrl : r < ρ.l.length := (List.getElem?_eq_some_iff.1 hl).1
      by_cases h2 : r ∈ rs
      · obtain ⟨j, hj, hjr⟩ := List.mem_iff_getElem.1 h2
        have hj' : rs[j]? = some r := by rw [List.getElem?_eq_getElem hj, hjr]
        have hjf : j ∈ fxc := by
          have : r ∉ movedBy rs fxc := by simpa using hp
          exact Classical.byContradiction fun hc => this ((mem_moved hn hj').2 hc)
        obtain ⟨l', p1, p2⟩ := hget j r hj'
        rw [hl] at p1; cases p1
        rw [nin j r hj']
        exact hst.fix j hjf _ p2
      · rw [nout r h2 hrl]; exact hl
    have keepF : ∀ v x, VR w ρ v x → VR w' ρn v (x.filt fun r => !(movedBy rs fxc).contains r) := fun v x hv => hv.mono hfr nnoρ _ hstay
    have keepP : ∀ v x, PR w (no ρ) v x → PR w' (no ρn) v x := fun v x hv => hv.mono (fun b hb hno => hfr.same b hb fun h => hno (.inl h)) hfr.le nnoρ
    refine ⟨⟨hr.dfr, by simp [AS.back, hr.size], fun i v x h1 h2 => ?_, ⟨?_, ?_, ?_, ?_, ?_, ⟨fun b hb => ?_, fun b r base ht hl => ?_, fun r S items b hrL hS => ?_, fun r r' S S' items items' b h1 h2 hS hS' => ?_⟩⟩⟩, hvr.ren _ nname (fun b _ hb => nno b hb), ⟨hfr, nsub, fun r hrf l hl => ?_, nX⟩⟩
    · simp only [AS.back, List.getElem?_map] at h2
      cases hq : s.tm[i]? with
      | none => simp [hq] at h2
      | some y => simp only [hq, Option.map_some, Option.some.injEq] at h2; subst h2; exact keepF _ _ (hr.tm i v y h1 hq)
    · rw [nl]
      simp only [AS.back, List.length_append, setLocs_len, setAll_len, List.length_map, List.length_drop]
      rw [hρl, hhr.len]
    · intro b hb
      rw [nX] at hb
      exact Nat.lt_of_lt_of_le (hr.hr.xlt b hb) hfr.le
    · intro b hb hx
      rw [nX] at hx
      rcases hb with ⟨r, base, hb⟩ | hb
      · rcases nowns r b base hb with ⟨_, h⟩ | ⟨j, h, _⟩
        · exact hr.hr.disj b (.l h) hx
        · exact hhr.disj b (.l h) ((hX b).2 ⟨.inr hx, fun hc => hr.hr.disj b (hownc b hc) hx⟩)
      · rcases (nT b).1 hb with ⟨h1, _⟩ | h1
        · exact hr.hr.disj b (.inr h1) hx
        · exact hhr.disj b (.inr h1) ((hX b).2 ⟨.inr hx, fun hc => hr.hr.disj b (hownc b hc) hx⟩)
    · intro r r' b base base' h1 h2
      rcases nowns r b base h1 with ⟨o1, p1⟩ | ⟨j1, p1, e1⟩ <;> rcases nowns r' b base' h2 with ⟨o2, p2⟩ | ⟨j2, p2, e2⟩
      · exact hr.hr.inj _ _ _ _ _ p1 p2
      · exact absurd (hst.sub b (own_lt hr.hr (.l p1)) (.l p2)) (lnot o1 p1)
      · exact absurd (hst.sub b (own_lt hr.hr (.l p2)) (.l p1)) (lnot o2 p2)
      · rw [e1, e2, hhr.inj _ _ _ _ _ p1 p2]
    · intro r o l h1 h2
      simp only [AS.back] at h1
      by_cases hrl : r < ρ.l.length
      · rw [List.getElem?_append_left (by rw [setAll_len]; simp; omega)] at h1
        by_cases hin : r ∈ rs
        · obtain ⟨j, hj, hjr⟩ := List.mem_iff_getElem.1 hin
          have hj' : rs[j]? = some r := by rw [List.getElem?_eq_getElem hj, hjr]
          rw [setAll_in rs _ _ j r hn hj' (by simp; omega) (by simp; omega), List.getElem?_map] at h1
          rw [nin j r hj'] at h2
          cases hq : L'[j]? with
          | none => simp [hq] at h1
          | some o' =>
            simp [hq] at h1; subst h1
            exact (hhr.ent j o' l hq h2).ren _ nname (fun b _ hb => nno b hb)
        · rw [setAll_out rs _ _ r hin, List.getElem?_map] at h1
          rw [nout r hin hrl] at h2
          cases hq : s.L[r]? with
          | none => simp [hq] at h1
          | some o0 =>
            simp only [hq, Option.map_some, Option.some.injEq] at h1
            subst h1
            have hent := hr.hr.ent r o0 l hq h2
            have hsame : ∀ b base, l = some (b, base) → w'.heap[b]? = w.heap[b]? := fun b base hl => by
              subst hl
              exact hst.fr.same b (own_lt hr.hr (.l h2)) (lnot hin h2)
            cases o0 with
            | dead => exact hent
            | cells cs =>
              obtain ⟨b, c, ty, g1, g2, g3, g4⟩ := hent
              refine ⟨b, c, ty, g1, by rw [hsame _ _ g1]; exact g2, by simpa using g3, fun i v x h5 h6 => ?_⟩
              simp only [List.getElem?_map] at h6
              cases hx : cs[i]? with
              | none => simp [hx] at h6
              | some y => simp only [hx, Option.map_some, Option.some.injEq] at h6; subst h6; exact keepF _ _ (g4 i v y h5 hx)
            | vec k es =>
              obtain ⟨h0, hl, hd⟩ := hent
              refine ⟨h0, hl, ?_⟩
              rcases hd with hd | ⟨b, base', c, ty, g1, g2, g3, g4⟩
              · exact .inl hd
              · exact .inr ⟨b, base', c, ty, g1, by rw [hsame _ _ g1]; exact g2, g3, fun i j ei x h5 h6 => let ⟨v, h7, h8⟩ := g4 i j ei x h5 h6; ⟨v, h7, keepP _ _ h8⟩⟩
            | forest S items => exact ⟨hent.1, hent.2.keep fun b hS hlt => hst.fr.same b hlt (tnot (hr.hr.t.sub _ _ _ b hq hS) (fnot hin hq hS))⟩
      · rw [List.getElem?_append_right (by rw [setAll_len]; simp; omega), setAll_len] at h1
        simp only [List.length_map, List.getElem?_map, List.getElem?_drop] at h1
        rw [nnew r (by omega), hρl] at h2
        cases hq : L'[rs.length + (r - s.L.length)]? with
        | none => simp [hq] at h1
        | some o' =>
          simp [hq] at h1; subst h1
          exact (hhr.ent _ o' l hq h2).ren _ nname (fun b _ hb => nno b hb)
    · rcases (nT b).1 hb with ⟨h1, _⟩ | h1
      · exact Nat.lt_of_lt_of_le (hr.hr.t.lt b h1) hfr.le
      · exact hhr.t.lt b h1
    · rcases (nT b).1 ht with ⟨h1, h2⟩ | h1 <;> rcases nowns r b base hl with ⟨ho, h⟩ | ⟨j, h, _⟩
      · exact hr.hr.t.dl b r base h1 h
      · exact tnot h1 h2 (hst.sub b (hr.hr.t.lt b h1) (.l h))
      · exact lnot ho h (hst.sub b (own_lt hr.hr (.l h)) (.inr h1))
      · exact hhr.t.dl b j base h1 h
    · rcases nfor hrL with ⟨ho, h⟩ | ⟨j, h, _⟩
      · exact (nT b).2 (.inl ⟨hr.hr.t.sub _ _ _ b h hS, fnot ho h hS⟩)
      · exact (nT b).2 (.inr (hhr.t.sub _ _ _ b h hS))
    · rcases nfor h1 with ⟨o1, p1⟩ | ⟨j1, p1, e1⟩ <;> rcases nfor h2 with ⟨o2, p2⟩ | ⟨j2, p2, e2⟩
      · exact hr.hr.t.dis _ _ _ _ _ _ b p1 p2 hS hS'
      · have ht := hr.hr.t.sub _ _ _ b p1 hS
        exact absurd (hst.sub b (hr.hr.t.lt b ht) (.inr (hhr.t.sub _ _ _ b p2 hS'))) (tnot ht (fnot o1 p1 hS))
      · have ht := hr.hr.t.sub _ _ _ b p2 hS'
        exact absurd (hst.sub b (hr.hr.t.lt b ht) (.inr (hhr.t.sub _ _ _ b p1 hS))) (tnot ht (fnot o2 p2 hS'))
      · rw [e1, e2, hhr.t.dis _ _ _ _ _ _ b p1 p2 hS hS']
    · refine hstay r l ?_ hl
      by_cases h2 : r ∈ rs
      · obtain ⟨j, hj, hjr⟩ := List.mem_iff_getElem.1 h2
        have hj' : rs[j]? = some r := by rw [List.getElem?_eq_getElem hj, hjr]
        have : r ∉ movedBy rs fxc := fun hm => (mem_moved hn hj').1 hm (hfx j r hj' hrf)
        simpa using this
      · simpa using not_moved h2

end
end Go.Pc
