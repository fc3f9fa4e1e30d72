/- The abstract logic: regions that draw their order, with operations that float beside a chain and behind parts of it. -/
import Derived.Test.YtajkeegikligcaaDoorAlz
set_option linter.unusedSimpArgs false
set_option linter.unusedVariables false
namespace Go.Pc
open Go

section
variable {P : Program} {T : TypeId → Ty} {fx bl : List Nat}

/-- A link of the chain: its operation, the own blocks that it keeps, what joins before it, what floats from there on, what is looked at again. -/
structure En where
  c : Nat
  fx : List Nat
  new : List (Nat × It)
  born : List Nat
  chk : List (Nat × It)

def pendE : List En → List (Nat × It) → List (Nat × It)
  | [], fin => fin
  | e :: rest, fin => e.new ++ pendE rest fin
theorem pendE_append : ∀ (l r : List En) (fin : List (Nat × It)), pendE (l ++ r) fin = pendE l [] ++ pendE r fin
  | [], r, fin => rfl
  | e :: l, r, fin => by simp only [List.cons_append, pendE, pendE_append l r fin, List.append_assoc]

/-- The floating results and the chain's own result. -/
def joinF (fx : List Nat) (dst : Option Tmp) (tmF : List AV) (s : AS) : List AV :=
  match dst with
  | some d => (tmF.map (AV.filt (inR fx))).set d ((s.tm.getD d .any).filt (inR fx))
  | none => tmF.map (AV.filt (inR fx))
theorem joinF_len (fx : List Nat) (dst : Option Tmp) (tmF : List AV) (s : AS) : (joinF fx dst tmF s).length = tmF.length := by unfold joinF; split <;> simp
theorem joinF_filt {fx : List Nat} {dst : Option Tmp} {tmF : List AV} {s : AS} {t : Nat} {x : AV} (h : (joinF fx dst tmF s)[t]? = some x) : x.filt (inR fx) = x := by
  unfold joinF at h
  split at h
  · rename_i d
    rw [List.getElem?_set] at h
    split at h
    · split at h
      · cases h; exact AV.filt_filt _ _
      · cases h
    · rw [List.getElem?_map] at h
      cases hq : tmF[t]? with
      | none => simp [hq] at h
      | some y => simp [hq] at h; subst h; exact AV.filt_filt _ _
  · rw [List.getElem?_map] at h
    cases hq : tmF[t]? with
    | none => simp [hq] at h
    | some y => simp [hq] at h; subst h; exact AV.filt_filt _ _

/-- The chain. -/
def sxG (P : Program) (T : TypeId → Ty) (bl : List Nat) (ops : List Oper) (fin : List (Nat × It)) : List En → List AV → AS → (AS → Prop) → Prop
  | [], tmF, s, K => K (addI T tmF s fin)
  | e :: rest, tmF, s, K =>
    match ops[e.c]? with
    | some o => aOp P T e.fx bl o (addI T tmF s e.new) (fun s' => sxF P T e.fx ops e.born ⟨joinF e.fx o.dst tmF s', s'.L⟩ (fun tmF' => sxRe P T e.fx ops tmF' e.chk (clr s' (pendE rest fin)) (fun s'' => sxG P T bl ops fin rest tmF' s'' K)))
    | none => False

/-! ### The checks -/

def isF (d : Tmp) : It → Bool
  | .f d' => d' == d
  | .a _ _ => false
theorem isF_iff {d : Tmp} {it : It} : isF d it = true ↔ it = .f d := by
  cases it with
  | f d' => simp [isF]
  | a d' e => simp [isF]

def floG (ops : List Oper) (fl cs : List Nat) : Bool := fl.all fun i => match ops[i]? with
  | none => false
  | some o => (match o.dst with | some d => dstB ops i d | none => false) && (o.looksAt ops.toArray).all fun t => (List.range ops.length).all fun k => match ops[k]? with
    | none => true
    | some ok => ok.dst != some t || ((fl.contains k || cs.contains k) && befB ops ops.length i k) || (cs.contains k && befB ops ops.length k i)

def chG (ops : List Oper) (fin : List (Nat × It)) : List Nat → Option Nat → List En → Bool
  | _, _, [] => true
  | bn, pr, e :: rest => (match pr with | some b => befB ops ops.length e.c b | none => true) && e.new.all (fun p => befB ops ops.length e.c p.1) && e.born.all (fun i => befB ops ops.length i e.c) && ascB e.born &&
      (pendE rest fin).all (fun p => match p.2 with | .f d => !bn.contains p.1 || e.chk.any (fun q => q.1 == p.1 && isF d q.2) | .a _ _ => true) && chG ops fin (bn ++ e.born) (some e.c) rest

def floatG (fx0 fx : List Nat) (ops : List Oper) (fl fl0 : List Nat) (ch : List En) (fin : List (Nat × It)) : Bool :=
  rdyB ops && floG ops fl (ch.map (·.c)) && ascB fl0 && (pendE ch fin).all (itB ops fl) && chG ops fin fl0 none ch && ((List.range ops.length).all fun k => (ch.any fun p => p.c == k) || (pendE ch fin).any fun p => p.1 == k) &&
    ((ch.all fun p => !fl.contains p.c && (pendE ch fin).all fun q => q.1 != p.c) && decide ((pendE ch fin).map (·.1)).Nodup) && (fx0.all (inR fx) && ch.all fun p => fx0.all (inR p.fx)) &&
    (fl.all fun i => fl0.contains i || ch.any fun p => p.born.contains i) && (fl0.all fl.contains && ch.all fun p => p.born.all fl.contains) && (ch.all fun p => match ops[p.c]? with | some o => (match o.dst with | some d => dstB ops p.c d | none => true) | none => false)

structure FloatG (fx0 fx : List Nat) (ops : List Oper) (fl fl0 : List Nat) (ch : List En) (fin : List (Nat × It)) : Prop where
  rdy : ∀ (j : Nat) o, ops[j]? = some o → o.guard = none ∧ ∀ e ∈ o.after, Region.binds .any e = true → e.on < j
  flo : ∀ i ∈ fl, ∃ o d, ops[i]? = some o ∧ o.dst = some d ∧ (∀ k ok, k ≠ i → ops[k]? = some ok → ok.dst ≠ some d) ∧ ∀ t ∈ o.looksAt ops.toArray, ∀ (k : Nat) ok, ops[k]? = some ok → ok.dst = some t → ((k ∈ fl ∨ ∃ p ∈ ch, p.c = k) ∧ befB ops ops.length i k = true) ∨ ((∃ p ∈ ch, p.c = k) ∧ befB ops ops.length k i = true)
  asc : fl0.Pairwise (· < ·)
  itf : ∀ i d, (i, It.f d) ∈ pendE ch fin → i ∈ fl ∧ ∃ o, ops[i]? = some o ∧ o.dst = some d
  ita : ∀ i d e, (i, It.a d e) ∈ pendE ch fin → i ∉ fl ∧ ∃ o, ops[i]? = some o ∧ o.dst = some d ∧ o.op = .alloc e ∧ ∀ k ok, k ≠ i → ops[k]? = some ok → ok.dst ≠ some d
  chn : chG ops fin fl0 none ch = true
  all : ∀ k, k < ops.length → (∃ p ∈ ch, p.c = k) ∨ ∃ p ∈ pendE ch fin, p.1 = k
  dis : ∀ p ∈ ch, p.c ∉ fl ∧ ∀ q ∈ pendE ch fin, q.1 ≠ p.c
  nod : ((pendE ch fin).map (·.1)).Nodup
  sub : (∀ r ∈ fx0, r ∈ fx) ∧ ∀ p ∈ ch, ∀ r ∈ fx0, r ∈ p.fx
  brn : ∀ i ∈ fl, i ∈ fl0 ∨ ∃ p ∈ ch, i ∈ p.born
  bsub : (∀ i ∈ fl0, i ∈ fl) ∧ ∀ p ∈ ch, ∀ i ∈ p.born, i ∈ fl
  chd : ∀ p ∈ ch, ∃ o, ops[p.c]? = some o ∧ ∀ d, o.dst = some d → ∀ k ok, k ≠ p.c → ops[k]? = some ok → ok.dst ≠ some d

theorem ascB_pw : ∀ {l : List Nat}, ascB l = true → l.Pairwise (· < ·)
  | [], _ => .nil
  | i :: l, h => by
    simp only [ascB, Bool.and_eq_true, List.all_eq_true, decide_eq_true_eq] at h
    exact .cons h.1 (ascB_pw h.2)

theorem floatG_spec {fx0 fx : List Nat} {ops : List Oper} {fl fl0 : List Nat} {ch : List En} {fin : List (Nat × It)} (h : floatG fx0 fx ops fl fl0 ch fin = true) : FloatG fx0 fx ops fl fl0 ch fin := by
  simp only [floatG, Bool.and_eq_true] at h
  obtain ⟨⟨⟨⟨⟨⟨⟨⟨⟨⟨h1, h2⟩, h3⟩, h4⟩, h5⟩, h6⟩, h7⟩, h8⟩, h9⟩, hA⟩, hB⟩ := h
  refine ⟨fun j o ho => ?_, fun i hi => ?_, ascB_pw h3, fun i d hi => ?_, fun i d e hi => ?_, h5, fun k hk => ?_, fun p hp => ?_, ?_, ⟨fun r hr => ?_, fun p hp r hr => ?_⟩, fun i hi => ?_, ⟨fun i hi => ?_, fun p hp i hi => ?_⟩, fun p hp => ?_⟩
  · have hj := (List.getElem?_eq_some_iff.1 ho).1
    have := List.all_eq_true.1 h1 j (List.mem_range.2 hj)
    rw [ho] at this
    simp only [Bool.and_eq_true, Option.isNone_iff_eq_none] at this
    refine ⟨this.1, fun e he hb => ?_⟩
    have := Array.all_eq_true_iff_forall_mem.1 this.2 e he
    simpa [hb] using this
  · have := List.all_eq_true.1 h2 i hi
    split at this
    · cases this
    · rename_i o ho
      simp only [Bool.and_eq_true] at this
      obtain ⟨ha, hb⟩ := this
      split at ha
      · rename_i d hd
        refine ⟨o, d, ho, hd, dstB_spec ha, fun t ht k ok hok hkd => ?_⟩
        have hkl := (List.getElem?_eq_some_iff.1 hok).1
        have := List.all_eq_true.1 (List.all_eq_true.1 hb t ht) k (List.mem_range.2 hkl)
        rw [hok] at this
        simp only [hkd, Bool.or_eq_true, Bool.and_eq_true] at this
        rcases this with (this | this) | this
        · simp at this
        · refine .inl ⟨?_, this.2⟩
          rcases this.1 with q | q
          · exact .inl (by simpa using q)
          · exact .inr (by simpa using q)
        · exact .inr ⟨by simpa using this.1, this.2⟩
      · cases ha
  · have := List.all_eq_true.1 h4 _ hi
    unfold itB at this
    split at this
    · cases this
    · rename_i o ho
      simp only [Bool.and_eq_true] at this
      exact ⟨by simpa using this.1, o, ho, by simpa using this.2⟩
  · have := List.all_eq_true.1 h4 _ hi
    unfold itB at this
    split at this
    · cases this
    · rename_i o ho
      simp only [Bool.and_eq_true] at this
      obtain ⟨⟨⟨g1, g2⟩, g3⟩, g4⟩ := this
      refine ⟨by simpa using g1, o, ho, by simpa using g2, ?_, dstB_spec g3⟩
      split at g4
      · rename_i e' he'
        rw [he', of_decide_eq_true g4]
      · cases g4
  · have := List.all_eq_true.1 h6 k (List.mem_range.2 hk)
    simp only [Bool.or_eq_true, List.any_eq_true, beq_iff_eq] at this
    exact this
  · have := List.all_eq_true.1 h7.1 p hp
    simp only [Bool.and_eq_true, List.all_eq_true] at this
    exact ⟨by simpa using this.1, fun q hq => by simpa using this.2 q hq⟩
  · exact of_decide_eq_true h7.2
  · exact inR_mem.1 (List.all_eq_true.1 h8.1 r hr)
  · exact inR_mem.1 (List.all_eq_true.1 (List.all_eq_true.1 h8.2 p hp) r hr)
  · have := List.all_eq_true.1 h9 i hi
    simpa using this
  · have := List.all_eq_true.1 hA.1 i hi
    simpa using this
  · have := List.all_eq_true.1 (List.all_eq_true.1 hA.2 p hp) i hi
    simpa using this
  · have := List.all_eq_true.1 hB p hp
    split at this
    · rename_i o ho
      refine ⟨o, ho, fun d hd => ?_⟩
      rw [hd] at this
      exact dstB_spec this
    · cases this

section
variable {P : Program} {T : TypeId → Ty} {fx : List Nat}
theorem sxF_spec2 (hT : TTOk P T) {ops : List Oper} {K : List AV → Prop} : ∀ (l : List Nat) (s : AS), sxF P T fx ops l s K →
    (∀ i ∈ l, ∃ o d, ops[i]? = some o ∧ o.dst = some d ∧ (∀ k ok, k ≠ i → ops[k]? = some ok → ok.dst ≠ some d) ∧ ∀ t ∈ o.looksAt ops.toArray, ∀ k ∈ l, ∀ ok, ops[k]? = some ok → ok.dst = some t → k < i) → l.Pairwise (· < ·) → (∀ (t : Nat) x, s.tm[t]? = some x → x.filt (inR fx) = x) →
    ∃ tmF, K tmF ∧ tmF.length = s.tm.length ∧ (∀ t : Nat, (∀ i ∈ l, ∀ o, ops[i]? = some o → o.dst ≠ some t) → tmF[t]? = s.tm[t]?) ∧ (∀ (t : Nat) x, tmF[t]? = some x → x.filt (inR fx) = x) ∧
      ∀ i ∈ l, ∃ o d r, ops[i]? = some o ∧ o.dst = some d ∧ QOK P o ⟨tmF, s.L⟩ r ∧ ∀ x, tmF[d]? = some x → x = r.filt (inR fx)
  | [], s, h, _, _, hf => ⟨s.tm, h, rfl, fun _ _ => rfl, hf, fun i hi => by cases hi⟩
  | i :: l, s, h, hfl, hp, hf => by
    obtain ⟨o, d, ho, hd, hu, hlook⟩ := hfl i (by simp)
    rw [List.pairwise_cons] at hp
    simp only [sxF, ho] at h
    obtain ⟨r, hr, hq⟩ := qOpL_sound hT h
    have e1 : s.put o.dst (r.filt (inR fx)) = ⟨s.tm.set d (r.filt (inR fx)), s.L⟩ := by rw [hd]; rfl
    rw [e1] at hr
    obtain ⟨tmF, k1, k2, k3, k4, k5⟩ := sxF_spec2 hT l _ hr (fun j hj => by
      obtain ⟨o', d', a1, a2, a3, a4⟩ := hfl j (by simp [hj])
      exact ⟨o', d', a1, a2, a3, fun t ht k hk => a4 t ht k (by simp [hk])⟩) hp.2 (fun t x hx => by
      rw [List.getElem?_set] at hx
      split at hx
      · split at hx
        · cases hx; exact AV.filt_filt _ _
        · cases hx
      · exact hf t x hx)
    simp only [List.length_set] at k2
    have hnl : ∀ j ∈ l, ∀ oj, ops[j]? = some oj → oj.dst ≠ some d := fun j hj oj hoj => hu j oj (by have := hp.1 j hj; omega) hoj
    have hne : ∀ t, (∀ j ∈ i :: l, ∀ oj, ops[j]? = some oj → oj.dst ≠ some t) → tmF[t]? = s.tm[t]? := fun t ht => by
      rw [k3 t (fun j hj => ht j (by simp [hj]))]
      rw [List.getElem?_set_ne (fun e => ht i (by simp) o ho (by rw [hd, e]))]
    refine ⟨tmF, k1, k2, hne, k4, fun j hj => ?_⟩
    rcases List.mem_cons.1 hj with rfl | hj
    · refine ⟨o, d, r, ho, hd, hq.congr rfl (fun x hx => ?_), fun x hx => ?_⟩
      · cases x with
        | tmp t =>
          have hlk := hlook t (looks_ops hx)
          simp only [AS.ev, List.getD_eq_getElem?_getD]
          rw [hne t (fun k hk ok hok hkd => ?_)]
          have h1 := hlk k hk ok hok hkd
          rcases List.mem_cons.1 hk with rfl | hk
          · omega
          · have := hp.1 k hk; omega
        | _ => rfl
      · rw [k3 d hnl, List.getElem?_set] at hx
        simp only [if_true] at hx
        split at hx
        · cases hx; rfl
        · cases hx
    · exact k5 j hj

end

/-- What holds while the region runs. -/
structure FG (P : Program) (T : TypeId → Ty) (fx0 fx bl : List Nat) (ops : List Oper) (fl : List Nat) (fin : List (Nat × It)) (tmF : List AV) (K : AS → Prop) (ρ0 : Env) (w0 : World) (bn : List Nat) (done rest : List En) (β : Nat → Nat) (listed : Array Bool) (ρ : Env) (s : AS) (a : Act) (w : World) : Prop where
  dn : ∀ p ∈ done, listed.getD p.c false = true
  rs : ∀ p ∈ rest, listed.getD p.c false = false
  cb : ∃ pr, chG ops fin bn pr rest = true
  pd : ∀ q ∈ pendE done [], listed.getD q.1 false = true
  rel : Rel ρ s a w
  len : a.tmps.size = tmF.length
  go : sxG P T bl ops fin rest tmF s K
  bf : ∀ i ∈ bn, i ∈ fl
  br : ∀ i ∈ fl, i ∈ bn ∨ ∃ p ∈ rest, i ∈ p.born
  lb : ∀ i ∈ fl, listed.getD i false = true → i ∈ bn
  re : ∀ i d, (i, It.f d) ∈ pendE rest fin → i ∈ bn → ∃ o r, ops[i]? = some o ∧ QOK P o ⟨tmF, s.L⟩ r ∧ ∀ x, tmF[d]? = some x → x = r.filt (inR fx)
  junk : ∀ p ∈ pendE rest fin, ∀ x, s.tm[p.2.d]? = some x → x = .any
  kn : ∀ (t : Nat) v x, (∀ k ok, ops[k]? = some ok → ok.dst = some t → ((k ∈ fl ∨ ∃ p ∈ done, p.c = k) ∧ listed.getD k false = true) ∨ ∃ p ∈ rest, p.c = k) → a.tmps[t]? = some v → tmF[t]? = some x → VR w ρ v x
  fr : Fr (own ρ0) w0 w
  sb : ∀ b, b < w0.heap.size → own ρ b → own ρ0 b
  fix : ∀ r ∈ fx0, ∀ x, ρ0.l[r]? = some x → ρ.l[r]? = some x
  xa : ∀ b, ρ0.X b → ρ.X b
  xb : ∀ b, ρ.X b → ρ0.X b ∨ ∃ i d e, (i, It.a d e) ∈ pendE rest fin ∧ listed.getD i false = true ∧ b = β i
  al : ∀ i d e, (i, It.a d e) ∈ pendE rest fin → listed.getD i false = true → ρ.X (β i) ∧ w0.heap.size ≤ β i ∧ NewAt T a w d e (β i)
  inj : ∀ i d e i' d' e', (i, It.a d e) ∈ pendE rest fin → (i', It.a d' e') ∈ pendE rest fin → listed.getD i false = true → listed.getD i' false = true → β i = β i' → i = i'

end

section
variable {P : Program} {T : TypeId → Ty} {bl : List Nat}
variable {fx00 fx0 fx : List Nat} {ops : List Oper} {fl fl0 bn : List Nat} {ch : List En} {fin : List (Nat × It)} {tmF : List AV} {K : AS → Prop} {ρ0 : Env} {w0 : World} {done rest : List En} {β : Nat → Nat} {listed : Array Bool} {ρ : Env} {s : AS} {a : Act} {w : World}

theorem FG.stepF (C : FloatG fx0 fx00 ops fl fl0 ch fin) (hch : ch = done ++ rest) (h : FG P T fx0 fx bl ops fl fin tmF K ρ0 w0 bn done rest β listed ρ s a w) {i : Nat} (hi : i ∈ fl) (hib : i ∈ bn) (hun : listed.getD i false = false) {o : Oper} {d : Tmp} (ho : ops[i]? = some o) (hd : o.dst = some d) (hp : (i, It.f d) ∈ pendE rest fin)
    {v : Value} {w' : World} {r : AV} (hv : VR w' ρ v r) (hg : Grow w w') (hr : ∀ x, tmF[d]? = some x → x = r.filt (inR fx)) : FG P T fx0 fx bl ops fl fin tmF K ρ0 w0 bn done rest β (listed.setIfInBounds i true) ρ s (a.put o.dst v) w' := by
  have hpe : ∀ q ∈ pendE rest fin, q ∈ pendE ch fin := fun q hq => by rw [hch, pendE_append]; exact List.mem_append_right _ hq
  have hai : ∀ i' d' e', (i', It.a d' e') ∈ pendE rest fin → i' ≠ i := fun i' d' e' hq e => (C.ita i' d' e' (hpe _ hq)).1 (e ▸ hi)
  refine ⟨fun p hp => getD_set_true (h.dn p hp), fun p hp => ?_, h.cb, fun q hq => getD_set_true (h.pd q hq), ?_, by cases o.dst <;> simp [Act.put, h.len], h.go, h.bf, h.br, fun i' hi' hl => ?_, h.re, h.junk, fun t u x hk hu hx => ?_, Fr.trans (o' := fun _ => False) h.fr hg (fun _ h => h.elim), h.sb, h.fix, h.xa, fun b hb => ?_, fun i' d' e' hq hl => ?_, fun i1 d1 e1 i2 d2 e2 h1 h2 l1 l2 hb => ?_⟩
  · rw [getD_set_ne false (fun e => (C.dis p (by rw [hch]; exact List.mem_append_right _ hp)).1 (by rw [← e]; exact hi))]
    exact h.rs p hp
  · refine (h.rel.grow hg).junk fun d' x hd' hx => h.junk _ hp x ?_
    rw [hd] at hd'; cases hd'; exact hx
  · by_cases e : i' = i
    · rw [e]; exact hib
    · exact h.lb i' hi' (set_inv hl e)
  · by_cases hdt : d = t
    · subst hdt
      rw [hd] at hu
      rw [put_eq hu, hr x hx]
      exact hv.filtd _
    · have hne : o.dst ≠ some t := fun e => hdt (by rw [hd] at e; cases e; rfl)
      refine (h.kn t u x (fun k ok hok hkd => ?_) (put_ne hne hu) hx).grow hg
      rcases hk k ok hok hkd with ⟨g1, g2⟩ | g1
      · refine .inl ⟨g1, set_inv g2 fun e => ?_⟩
        subst e
        rw [ho] at hok; cases hok
        exact hne hkd
      · exact .inr g1
  · rcases h.xb b hb with g | ⟨i', d', e', g1, g2, g3⟩
    · exact .inl g
    · exact .inr ⟨i', d', e', g1, getD_set_true g2, g3⟩
  · obtain ⟨g1, g2, g3⟩ := h.al i' d' e' hq (set_inv hl (hai _ _ _ hq))
    refine ⟨g1, g2, NewAt.put (g3.grow (hg.same _ g3.lt (fun h => h))) ?_ v⟩
    obtain ⟨_, oi, _, _, _, hu⟩ := C.ita i' d' e' (hpe _ hq)
    exact hu i o (fun e => hai _ _ _ hq e.symm) ho
  · exact h.inj i1 d1 e1 i2 d2 e2 h1 h2 (set_inv l1 (hai _ _ _ h1)) (set_inv l2 (hai _ _ _ h2)) hb

theorem FG.stepA (C : FloatG fx0 fx00 ops fl fl0 ch fin) (hch : ch = done ++ rest) (h : FG P T fx0 fx bl ops fl fin tmF K ρ0 w0 bn done rest β listed ρ s a w) {i : Nat} (hun : listed.getD i false = false) (hsz : i < listed.size) {o : Oper} {d : Tmp} {e : TypeId} (ho : ops[i]? = some o) (hd : o.dst = some d) (hp : (i, It.a d e) ∈ pendE rest fin)
    {c : Array Value} (hc1 : c.size = ((T e).zero.map AV.val).length) (hc2 : ∀ (j : Nat) v x, c[j]? = some v → ((T e).zero.map AV.val)[j]? = some x → x = .val v) :
    FG P T fx0 fx bl ops fl fin tmF K ρ0 w0 bn done rest (fun j => if j = i then w.heap.size else β j) (listed.setIfInBounds i true) ⟨ρ.l, fun y => ρ.X y ∨ y = w.heap.size, ρ.T⟩ s (a.put o.dst (.pointer (some ⟨w.heap.size, 0, none⟩))) (w.alloc (.cells c e)) := by
  have hpe : ∀ q ∈ pendE rest fin, q ∈ pendE ch fin := fun q hq => by rw [hch, pendE_append]; exact List.mem_append_right _ hq
  have hg : Grow w (w.alloc (.cells c e)) := Fr.alloc _ _ _
  have hnf : i ∉ fl := (C.ita i d e (hpe _ hp)).1
  have hnc : ∀ p ∈ done, p.c ≠ i := fun p hp' e' => (C.dis p (by rw [hch]; exact List.mem_append_left _ hp')).2 _ (hpe _ hp) e'.symm
  have hnr : ∀ p ∈ rest, p.c ≠ i := fun p hp' e' => (C.dis p (by rw [hch]; exact List.mem_append_right _ hp')).2 _ (hpe _ hp) e'.symm
  have hne : ∀ i', listed.getD i' false = true → i' ≠ i := fun i' hl e' => by subst e'; rw [hun] at hl; cases hl
  refine ⟨fun p hp => getD_set_true (h.dn p hp), fun p hp' => ?_, h.cb, fun q hq => getD_set_true (h.pd q hq), ?_, by cases o.dst <;> simp [Act.put, h.len], h.go, h.bf, h.br, fun i' hi' hl => ?_, h.re, h.junk, fun t u x hk hu hx => ?_, Fr.trans (o' := fun _ => False) h.fr hg (fun _ h => h.elim), h.sb, h.fix, fun b hb => .inl (h.xa b hb), fun b hb => ?_, fun i' d' e' hq hl => ?_, fun i1 d1 e1 i2 d2 e2 h1 h2 l1 l2 hb => ?_⟩
  · rw [getD_set_ne false (fun e' => (C.dis p (by rw [hch]; exact List.mem_append_right _ hp')).2 _ (hpe _ hp) e')]
    exact h.rs p hp'
  · refine (h.rel.hide _).junk fun d' x hd' hx => h.junk _ hp x ?_
    rw [hd] at hd'; cases hd'; exact hx
  · exact h.lb i' hi' (set_inv hl fun e' => hnf (e' ▸ hi'))
  · have hdt : o.dst ≠ some t := fun e' => by
      rcases hk i o ho e' with ⟨q, _⟩ | ⟨p, q1, q2⟩
      · rcases q with q | ⟨p, q1, q2⟩
        · exact hnf q
        · exact hnc p q1 q2
      · exact hnr p q1 q2
    refine (h.kn t u x (fun k ok hok hkd => ?_) (put_ne hdt hu) hx).hide _
    rcases hk k ok hok hkd with ⟨g1, g2⟩ | g1
    · exact .inl ⟨g1, set_inv g2 fun e' => by
        subst e'
        rcases g1 with q | ⟨p, q1, q2⟩
        · exact hnf q
        · exact hnc p q1 q2⟩
    · exact .inr g1
  · rcases hb with hb | hb
    · rcases h.xb b hb with g | ⟨i', d', e', g1, g2, g3⟩
      · exact .inl g
      · exact .inr ⟨i', d', e', g1, getD_set_true g2, by rw [if_neg (hne i' g2)]; exact g3⟩
    · exact .inr ⟨i, d, e, hp, set_self hsz, by rw [if_pos rfl]; exact hb⟩
  · by_cases hii : i' = i
    · subst hii
      rw [if_pos rfl]
      obtain ⟨_, o', ho', hd', hop', _⟩ := C.ita i' d' e' (hpe _ hq)
      obtain ⟨_, o'', ho'', hd'', hop'', _⟩ := C.ita i' d e (hpe _ hp)
      rw [ho] at ho' ho''; cases ho'; cases ho''
      rw [hd'] at hd''; cases hd''
      rw [hop'] at hop''; cases hop''
      refine ⟨.inr rfl, h.fr.le, fun u hu => ?_, c, heap_alloc_new w _, hc1, hc2⟩
      rw [hd'] at hu
      exact put_eq hu
    · rw [if_neg hii]
      obtain ⟨g1, g2, g3⟩ := h.al i' d' e' hq (set_inv hl hii)
      refine ⟨.inl g1, g2, NewAt.put (g3.grow (hg.same _ g3.lt (fun h => h))) ?_ _⟩
      obtain ⟨_, oi, _, _, _, hu⟩ := C.ita i' d' e' (hpe _ hq)
      exact hu i o (fun e => hii e.symm) ho
  · by_cases e1' : i1 = i <;> by_cases e2' : i2 = i
    · omega
    · simp only [e1', if_true, if_neg e2'] at hb
      have := (h.al i2 d2 e2 h2 (set_inv l2 e2')).2.2.lt
      omega
    · simp only [e2', if_true, if_neg e1'] at hb
      have := (h.al i1 d1 e1 h1 (set_inv l1 e1')).2.2.lt
      omega
    · simp only [if_neg e1', if_neg e2'] at hb
      exact h.inj i1 d1 e1 i2 d2 e2 h1 h2 (set_inv l1 e1') (set_inv l2 e2') hb

theorem chG_next {ops : List Oper} {fin : List (Nat × It)} : ∀ {rest : List En} {bn : List Nat} {c : Nat}, chG ops fin bn (some c) rest = true → ∀ p ∈ rest, c < p.c ∧ ∃ q, (q = c ∨ ∃ p' ∈ rest, p'.c = q) ∧ befB ops ops.length p.c q = true
  | [], _, _, _, p, hp => by cases hp
  | e :: rest, bn, c, h, p, hp => by
    simp only [chG, Bool.and_eq_true] at h
    have h0 := h.1.1.1.1.1
    rcases List.mem_cons.1 hp with rfl | hp
    · exact ⟨befB_lt h0, c, .inl rfl, h0⟩
    · obtain ⟨h1, q, h2, h3⟩ := chG_next h.2 p hp
      have := befB_lt h0
      refine ⟨by omega, q, .inr ?_, h3⟩
      rcases h2 with rfl | ⟨p', hp', e⟩
      · exact ⟨_, List.mem_cons_self .., rfl⟩
      · exact ⟨p', by simp [hp'], e⟩

theorem chG_born {ops : List Oper} {fin : List (Nat × It)} : ∀ {rest : List En} {bn : List Nat} {pr : Option Nat}, chG ops fin bn pr rest = true → ∀ p ∈ rest, ∀ i ∈ p.born, befB ops ops.length i p.c = true
  | [], _, _, _, p, hp => by cases hp
  | e :: rest, bn, pr, h, p, hp => by
    simp only [chG, Bool.and_eq_true] at h
    rcases List.mem_cons.1 hp with rfl | hp
    · exact fun i hi => List.all_eq_true.1 h.1.1.1.2 i hi
    · exact chG_born h.2 p hp

theorem FG.stepC (hT : TTOk P T) (C : FloatG fx0 fx00 ops fl fl0 ch fin) (hx0 : ∀ b, ρ0.X b → b < w0.heap.size) {e : En} (hch : ch = done ++ e :: rest)
    (h : FG P T fx0 fx bl ops fl fin tmF K ρ0 w0 bn done (e :: rest) β listed ρ s a w) (hsz : e.c < listed.size) {o : Oper} (ho : ops[e.c]? = some o) (hnew : ∀ p ∈ e.new, listed.getD p.1 false = true) (hbo : ∀ i ∈ e.born, listed.getD i false = false) :
    Out P (fun v w' => ∃ tmF' ρ' s', FG P T fx0 e.fx bl ops fl fin tmF' K ρ0 w0 (bn ++ e.born) (done ++ [e]) rest β (listed.setIfInBounds e.c true) ρ' s' (a.put o.dst v) w') ((execOp a.eval o).run P w) := by
  have hpe : ∀ q ∈ pendE (e :: rest) fin, q ∈ pendE ch fin := fun q hq => by rw [hch, pendE_append]; exact List.mem_append_right _ hq
  have hpn : ∀ q ∈ e.new, q ∈ pendE (e :: rest) fin := fun q hq => List.mem_append_left _ hq
  have hpr : ∀ q ∈ pendE rest fin, q ∈ pendE (e :: rest) fin := fun q hq => List.mem_append_right _ hq
  have hcm : e ∈ ch := by rw [hch]; simp
  have hcf : e.c ∉ fl := (C.dis _ hcm).1
  have hcq : ∀ q ∈ pendE (e :: rest) fin, q.1 ≠ e.c := fun q hq => (C.dis _ hcm).2 q (hpe q hq)
  have hnod : ((e.new ++ pendE rest fin).map (·.1)).Nodup := by
    have := C.nod
    rw [hch, pendE_append, List.map_append] at this
    exact (List.nodup_append.1 this).2.1
  rw [List.map_append] at hnod
  obtain ⟨hn1, _, hn3⟩ := List.nodup_append.1 hnod
  obtain ⟨pr, hcb⟩ := h.cb
  simp only [chG, Bool.and_eq_true] at hcb
  have hgo := h.go
  simp only [sxG, ho] at hgo
  obtain ⟨ρ1, k1, k2, k3, k4, k5⟩ := addI_sound (tmF := tmF) (T := T) β e.new ρ s h.rel (fun i d hi v x hv hx => h.kn d v x (fun k ok hok hkd => by
      obtain ⟨hif, oi, hoi, hdi⟩ := C.itf i d (hpe _ (hpn _ hi))
      obtain ⟨o', d', ho', hd', hu, _⟩ := C.flo i hif
      rw [hoi] at ho'; cases ho'
      rw [hdi] at hd'; cases hd'
      by_cases hki : k = i
      · subst hki; exact .inl ⟨.inl hif, hnew _ hi⟩
      · exact absurd hkd (hu k ok hki hok)) hv hx)
    (fun i d e' hi => by have := h.al i d e' (hpn _ hi) (hnew _ hi); exact ⟨this.1, this.2.2⟩) (fun i d e i' d' e' hi hi' => h.inj i d e i' d' e' (hpn _ hi) (hpn _ hi') (hnew _ hi) (hnew _ hi')) hn1
  refine ((aOp_sound hT hgo) ρ1 a w k1).mono fun v w' ⟨s1, ρ2, hK, hrel, hst⟩ => ?_
  obtain ⟨tmF', hK2, hlen', hbase', _, hfacts⟩ := sxF_spec2 hT e.born _ hK (fun i hi => by
    obtain ⟨o', d, q1, q2, q3, q4⟩ := C.flo i (C.bsub.2 e hcm i hi)
    exact ⟨o', d, q1, q2, q3, fun t ht k hkl ok hk hkd => by
      rcases q4 t ht k ok hk hkd with g | ⟨⟨p, g1, g2⟩, _⟩
      · exact befB_lt g.2
      · exact absurd (C.bsub.2 e hcm k hkl) (g2 ▸ (C.dis p g1).1)⟩) (ascB_pw hcb.1.1.2) (fun t x hx => joinF_filt hx)
  obtain ⟨g1, g2⟩ := sxRe_spec hT _ _ hK2
  simp only [joinF_len] at hlen'
  have hβ : ∀ i d e', (i, It.a d e') ∈ e.new → w0.heap.size ≤ β i := fun i d e' hi => (h.al i d e' (hpn _ hi) (hnew _ hi)).2.1
  have hXX : ρ2.X = ρ1.X := hst.x
  have hown1 : ∀ b, own ρ1 b → own ρ b ∨ w0.heap.size ≤ b := fun b hb => by
    rcases k4 b hb with q | ⟨i, d, e', q1, q2⟩
    · exact .inl q
    · exact .inr (by rw [q2]; exact hβ i d e' q1)
  refine ⟨tmF', ρ2, clr s1 (pendE rest fin), ⟨fun p hp => ?_, fun p hp => ?_, ⟨_, hcb.2⟩, fun q hq => ?_, Rel.clr _ _ hrel, ?_, g1, fun i hi => ?_, fun i hi => ?_, fun i hi hl => ?_, fun i d hi hib => ?_, fun p hp x hx => clr_any _ _ p x (.inl hp) hx, fun t u x hk hu hx => ?_, ?_, fun b hb ho2 => ?_, fun r hr x hx => ?_, fun b hb => ?_, fun b hb => ?_, fun i d e' hq hl => ?_, fun i1 d1 e1 i2 d2 e2 h1 h2 l1 l2 hb => ?_⟩⟩
  · rcases List.mem_append.1 hp with hp | hp
    · exact getD_set_true (h.dn p hp)
    · simp at hp; subst hp; exact set_self hsz
  · have := (chG_next hcb.2 p hp).1
    rw [getD_set_ne false (by omega)]
    exact h.rs p (by simp [hp])
  · rw [pendE_append] at hq
    rcases List.mem_append.1 hq with hq | hq
    · exact getD_set_true (h.pd q hq)
    · simp only [pendE, List.append_nil] at hq
      exact getD_set_true (hnew q hq)
  · rw [hlen', ← h.len]; cases o.dst <;> simp [Act.put]
  · rcases List.mem_append.1 hi with hi | hi
    · exact h.bf i hi
    · exact C.bsub.2 e hcm i hi
  · rcases h.br i hi with q | ⟨p, q1, q2⟩
    · exact .inl (List.mem_append_left _ q)
    · rcases List.mem_cons.1 q1 with rfl | q1
      · exact .inl (List.mem_append_right _ q2)
      · exact .inr ⟨p, q1, q2⟩
  · exact List.mem_append_left _ (h.lb i hi (set_inv hl fun e' => hcf (e' ▸ hi)))
  · rcases List.mem_append.1 hib with hib | hib
    · have := List.all_eq_true.1 hcb.1.2 _ hi
      simp only [Bool.or_eq_true, Bool.not_eq_true', List.any_eq_true, Bool.and_eq_true, beq_iff_eq] at this
      rcases this with q | ⟨⟨i', it⟩, q1, q2, q3⟩
      · rw [show bn.contains i = true from by simpa using hib] at q; cases q
      · simp only at q2 q3
        rw [isF_iff] at q3
        subst q2; subst q3
        exact g2 _ _ q1
    · obtain ⟨o', d', r, q1, q2, q3, q4⟩ := hfacts i hib
      obtain ⟨_, o'', q5, q6⟩ := C.itf i d (hpe _ (hpr _ hi))
      rw [q1] at q5; cases q5
      rw [q2] at q6; cases q6
      exact ⟨o', r, q1, q3.congr (clr_L _ _) fun _ _ => rfl, q4⟩
  · have hnb : ∀ i ∈ e.born, ∀ oi, ops[i]? = some oi → oi.dst ≠ some t := fun i hi oi hoi hd => by
      rcases hk i oi hoi hd with ⟨_, g2⟩ | ⟨p, q1, q2⟩
      · have hl := set_inv g2 (fun e' => hcf (e' ▸ C.bsub.2 e hcm i hi))
        rw [hbo i hi] at hl; cases hl
      · exact (C.dis p (by rw [hch]; simp [q1])).1 (q2 ▸ C.bsub.2 e hcm i hi)
    rw [hbase' t hnb] at hx
    simp only at hx
    by_cases hdt : o.dst = some t
    · rw [hdt] at hu hx
      have hu' := put_eq hu
      unfold joinF at hx
      simp only [List.getElem?_set] at hx
      rw [if_pos trivial] at hx
      split at hx
      · cases hx
        have hu2 : (a.put o.dst v).tmps[t]? = some u := by rw [hdt]; exact hu
        rw [List.getD_eq_getElem?_getD]
        cases hs1 : s1.tm[t]? with
        | none => rw [Option.getD_none, AV.filt]; exact .pr (.any _)
        | some y => rw [Option.getD_some]; exact (hrel.tm t u y hu2 hs1).filtd _
      · cases hx
    · have hx2 : (tmF.map (AV.filt (inR e.fx)))[t]? = some x := by
        unfold joinF at hx
        split at hx
        · rename_i d hd
          rw [List.getElem?_set, if_neg (fun e' => hdt (by rw [hd, e']))] at hx
          exact hx
        · exact hx
      rw [List.getElem?_map] at hx2
      cases hq : tmF[t]? with
      | none => simp [hq] at hx2
      | some y =>
        simp [hq] at hx2; subst hx2
        have hv := (h.kn t u y (fun k ok hok hkd => by
          rcases hk k ok hok hkd with ⟨g1, g2⟩ | ⟨p, q1, q2⟩
          rotate_left
          · exact .inr ⟨p, List.mem_cons_of_mem _ q1, q2⟩
          have hkc : k ≠ e.c := fun e' => by
            subst e'
            rw [ho] at hok; cases hok
            exact hdt hkd
          refine .inl ⟨?_, set_inv g2 hkc⟩
          rcases g1 with q | ⟨p, q1, q2⟩
          · exact .inl q
          · rcases List.mem_append.1 q1 with q1 | q1
            · exact .inr ⟨p, q1, q2⟩
            · simp at q1; subst q1; exact absurd q2.symm hkc) (put_ne hdt hu) hq).keep .refl (ρ' := ρ1) (fun b _ => k3 b) k2
        exact hv.mono (ρ' := ρ2) hst.fr (fun b hb hn => hst.no b hb hn) (inR e.fx) (fun r l hp hl => hst.fix r (inR_mem.1 hp) l hl)
  · exact Fr.trans h.fr hst.fr fun b hb => by
      rcases hown1 b hb with q | q
      · rcases Nat.lt_or_ge b w0.heap.size with hlt | hge
        · exact .inl (h.sb b hlt q)
        · exact .inr hge
      · exact .inr q
  · rcases hown1 b (hst.sub b (Nat.lt_of_lt_of_le hb h.fr.le) ho2) with q | q
    · exact h.sb b hb q
    · omega
  · exact hst.fix r (C.sub.2 e hcm r hr) x (k2 r x (h.fix r hr x hx))
  · rw [hXX]
    refine (k5 b).2 ⟨h.xa b hb, fun i d e' hi e'' => ?_⟩
    have := hβ i d e' hi
    have := hx0 b hb
    omega
  · rw [hXX] at hb
    obtain ⟨q1, q2⟩ := (k5 b).1 hb
    rcases h.xb b q1 with q | ⟨i, d, e', q3, q4, q5⟩
    · exact .inl q
    · rcases List.mem_append.1 q3 with q6 | q6
      · exact absurd q5 (q2 i d e' q6)
      · exact .inr ⟨i, d, e', q6, getD_set_true q4, q5⟩
  · have hl' := set_inv hl (hcq _ (hpr _ hq))
    obtain ⟨q1, q2, q3⟩ := h.al i d e' (hpr _ hq) hl'
    have hX1 : ρ1.X (β i) := (k5 _).2 ⟨q1, fun i' d' e'' hi' hb => by
      have := h.inj i d e' i' d' e'' (hpr _ hq) (hpn _ hi') hl' (hnew _ hi') hb
      exact hn3 i' (List.mem_map.2 ⟨_, hi', rfl⟩) i (List.mem_map.2 ⟨_, hq, rfl⟩) this.symm⟩
    refine ⟨hXX ▸ hX1, q2, NewAt.put (q3.grow (hst.fr.same _ q3.lt fun ho' => k1.hr.disj _ ho' hX1)) ?_ v⟩
    obtain ⟨_, oi, _, _, _, hu⟩ := C.ita i d e' (hpe _ (hpr _ hq))
    exact hu e.c o (fun e'' => hcq _ (hpr _ hq) e''.symm) ho
  · exact h.inj i1 d1 e1 i2 d2 e2 (hpr _ h1) (hpr _ h2) (set_inv l1 (hcq _ (hpr _ h1))) (set_inv l2 (hcq _ (hpr _ h2))) hb

end

section
variable {P : Program} {T : TypeId → Ty} {fx bl : List Nat}

def KG (P : Program) (T : TypeId → Ty) (bl : List Nat) (ops : List Oper) (fin : List (Nat × It)) (ch : List En) (s : AS) (K : AS → Prop) (tmF : List AV) : Prop := sxG P T bl ops fin ch tmF (clr s (pendE ch fin)) K

/-- THE RULE FOR A REGION THAT DRAWS ITS ORDER, with operations that float beside a chain. -/
theorem any_floatG (hT : TTOk P T) (hm : P.follows .mixedOrders = true) {ops : List Oper} {Q : Exit → AS → Prop} {s : AS} (fx' fl fl0 : List Nat) (ch : List En) (fin : List (Nat × It)) (hB : floatG fx fx' ops fl fl0 ch fin = true) (hA : itOk T (pendE ch fin) = true)
    (h : sxF P T fx' ops fl0 ⟨s.tm.map (AV.filt (inR fx')), s.L⟩ (KG P T bl ops fin ch s (Q .normal))) : ∀ (ρ0 : Env) (a0 : Act) (w0 : World), Rel ρ0 s a0 w0 → wpAny P .any ops.toArray (fun e a' w' => ∃ s' ρ', Q e s' ∧ Rel ρ' s' a' w' ∧ St fx ρ0 w0 ρ' w') ops.toArray.size (Array.replicate ops.toArray.size false) a0 { w0 with drawn := w0.drawn + 1 } := by
  have C := floatG_spec hB
  obtain ⟨tmF, hgo, hlen, hbase, htF, hfacts⟩ := sxF_spec2 hT fl0 _ h (fun i hi => by
    obtain ⟨o, d, h1, h2, h3, h4⟩ := C.flo i (C.bsub.1 i hi)
    exact ⟨o, d, h1, h2, h3, fun t ht k hkl ok hk hkd => by
      rcases h4 t ht k ok hk hkd with g | ⟨⟨p, g1, g2⟩, _⟩
      · exact befB_lt g.2
      · exact absurd (C.bsub.1 k hkl) (g2 ▸ (C.dis p g1).1)⟩) C.asc (fun t x hx => by
    rw [List.getElem?_map] at hx
    cases hq : s.tm[t]? with
    | none => simp [hq] at hx
    | some y => simp [hq] at hx; subst hx; exact AV.filt_filt _ _)
  simp only [List.length_map] at hlen
  intro ρ0 a0 w0 hr0
  have hsz : ops.toArray.size = ops.length := by simp
  have key : ∀ (fuel : Nat) (listed : Array Bool) (a' : Act) (w' : World), unl ops.length listed = fuel → HeadInv .any ops.toArray ops.length listed → a'.tmps.size = s.tm.length →
      (∃ fxc tmF bn done rest β ρ s', ch = done ++ rest ∧ FG P T fx fxc bl ops fl fin tmF (Q .normal) ρ0 w0 bn done rest β listed ρ s' a' w') →
      wpAny P .any ops.toArray (fun e a' w' => ∃ s' ρ', Q e s' ∧ Rel ρ' s' a' w' ∧ St fx ρ0 w0 ρ' w') fuel listed a' w' := by
    intro fuel
    induction fuel using Nat.strongRecOn with
    | _ fuel ih =>
    intro listed a' w' hfuel inv has ⟨fxc, tmF, bn, done, rest, β, ρ, s', hch, hfi⟩
    have hin : ∀ i, i < ops.length → i < listed.size := fun i hi => by rw [inv.size, hsz]; exact hi
    by_cases hall : ∀ i, i < ops.length → listed.getD i false = true
    · -- all has come
      have hrest : rest = [] := by
        cases rest with
        | nil => rfl
        | cons p rest =>
          have hgo' := hfi.go
          simp only [sxG] at hgo'
          split at hgo'
          · rename_i o ho
            have h1 := hall p.c (List.getElem?_eq_some_iff.1 ho).1
            have h2 := hfi.rs p (by simp)
            rw [h1] at h2; cases h2
          · cases hgo'
      subst hrest
      have hpe : ∀ q ∈ fin, q ∈ pendE ch fin := fun q hq => by rw [hch, pendE_append]; exact List.mem_append_right _ hq
      have hnod : (fin.map (·.1)).Nodup := by
        have := C.nod
        rw [hch, pendE_append, List.map_append] at this
        exact (List.nodup_append.1 this).2.1
      have hfl : ∀ i it, (i, it) ∈ fin → listed.getD i false = true := fun i it hi => by
        cases it with
        | f d =>
          obtain ⟨_, o, ho, _⟩ := C.itf i d (hpe _ hi)
          exact hall i (List.getElem?_eq_some_iff.1 ho).1
        | a d e =>
          obtain ⟨_, o, ho, _⟩ := C.ita i d e (hpe _ hi)
          exact hall i (List.getElem?_eq_some_iff.1 ho).1
      obtain ⟨ρ1, k1, k2, k3, k4, k5⟩ := addI_sound (tmF := tmF) (T := T) β fin ρ s' hfi.rel (fun i d hi v x hv hx => hfi.kn d v x (fun k ok hok hkd => by
          obtain ⟨hif, oi, hoi, hdi⟩ := C.itf i d (hpe _ hi)
          obtain ⟨o', d', ho', hd', hu, _⟩ := C.flo i hif
          rw [hoi] at ho'; cases ho'
          rw [hdi] at hd'; cases hd'
          by_cases hki : k = i
          · subst hki; exact .inl ⟨.inl hif, hfl _ _ hi⟩
          · exact absurd hkd (hu k ok hki hok)) hv hx)
        (fun i d e hi => by have := hfi.al i d e hi (hfl _ _ hi); exact ⟨this.1, this.2.2⟩) (fun i d e i' d' e' hi hi' => hfi.inj i d e i' d' e' hi hi' (hfl _ _ hi) (hfl _ _ hi')) hnod
      have hfin : ∃ s'' ρ', Q .normal s'' ∧ Rel ρ' s'' a' w' ∧ St fx ρ0 w0 ρ' w' := by
        refine ⟨_, ρ1, hfi.go, k1, ⟨hfi.fr, fun b hb ho => ?_, fun r hr x hx => k2 r x (hfi.fix r hr x hx), ?_⟩⟩
        · rcases k4 b ho with q | ⟨i, d, e, q1, q2⟩
          · exact hfi.sb b hb q
          · have := (hfi.al i d e q1 (hfl _ _ q1)).2.1; omega
        · funext b
          refine propext ⟨fun hb => ?_, fun hb => ?_⟩
          · obtain ⟨q1, q2⟩ := (k5 b).1 hb
            rcases hfi.xb b q1 with q | ⟨i, d, e, q3, _, q5⟩
            · exact q
            · exact absurd q5 (q2 i d e q3)
          · refine (k5 b).2 ⟨hfi.xa b hb, fun i d e hi e' => ?_⟩
            have := (hfi.al i d e hi (hfl _ _ hi)).2.1
            have := hr0.hr.xlt b hb
            omega
      have hnr : Region.ready .any ops.toArray listed = [] := by
        cases hq : Region.ready .any ops.toArray listed with
        | nil => rfl
        | cons j l =>
          have hj : j ∈ Region.ready .any ops.toArray listed := by rw [hq]; simp
          obtain ⟨hun, o, ho, _⟩ := mem_ready.1 hj
          have hjl : j < ops.length := by have := (Array.getElem?_eq_some_iff.1 ho).1; simpa using this
          have := hall j hjl
          rw [getD_both hun] at this; cases this
      cases fuel with
      | zero => exact ⟨hnr, hfin⟩
      | succ fuel => exact ⟨fun _ => hfin, fun i hi => by rw [hnr] at hi; cases hi⟩
    · -- some are still to come
      have hex : ∃ i, i < ops.length ∧ listed.getD i false = false := by
        refine Classical.byContradiction fun hc => hall fun i hi => ?_
        cases hl : listed.getD i false with
        | true => rfl
        | false => exact absurd ⟨i, hi, hl⟩ hc
      obtain ⟨i0, ⟨hi0, hl0⟩, hmin⟩ := least_ex hex
      have hready0 : i0 ∈ Region.ready .any ops.toArray listed := by
        refine mem_ready.2 ⟨getD_in (hin _ hi0) hl0, ops[i0], by simp [hi0], fun e he hb => ?_⟩
        have := (C.rdy i0 _ (List.getElem?_eq_getElem hi0)).2 e he hb
        cases hl : listed.getD e.on false with
        | true => rfl
        | false => have := hmin e.on ⟨by omega, hl⟩; omega
      have hcl : ∀ (j : Nat) oj, ops[j]? = some oj → listed.getD j false = true → ∀ e ∈ oj.after, Region.binds .any e = true → listed.getD e.on false = true := fun j oj hj => inv.closed j oj (by simpa using hj)
      have hpe : ∀ q ∈ pendE rest fin, q ∈ pendE ch fin := fun q hq => by rw [hch, pendE_append]; exact List.mem_append_right _ hq
      have step : ∀ i ∈ Region.ready .any ops.toArray listed, wpOp P ops.toArray (fun e a' w' => ∃ s' ρ', Q e s' ∧ Rel ρ' s' a' w' ∧ St fx ρ0 w0 ρ' w') i
          (wpAny P .any ops.toArray (fun e a' w' => ∃ s' ρ', Q e s' ∧ Rel ρ' s' a' w' ∧ St fx ρ0 w0 ρ' w') (fuel - 1) (listed.setIfInBounds i true)) a' w' ∧ 0 < fuel := fun i hi => by
        obtain ⟨hun, o, ho, hedge⟩ := mem_ready.1 hi
        have ho' : ops[i]? = some o := by simpa using ho
        have hil : i < ops.length := (List.getElem?_eq_some_iff.1 ho').1
        have hunf : listed.getD i false = false := getD_both hun
        have hpos : unl ops.length (listed.setIfInBounds i true) + 1 = unl ops.length listed := by
          refine countP_set _ _ i (by simp only [hun]; rfl) ?_ (fun k hk => ?_) _ hil
          · rw [Array.getD_eq_getD_getElem?, Array.getElem?_setIfInBounds_self_of_lt (hin _ hil)]; rfl
          · show (!(listed.setIfInBounds i true).getD k true) = !listed.getD k true
            rw [getD_set_ne true (Ne.symm hk)]
        have cont : ∀ v w'', (∃ fxc tmF bn done rest β ρ s', ch = done ++ rest ∧ FG P T fx fxc bl ops fl fin tmF (Q .normal) ρ0 w0 bn done rest β (listed.setIfInBounds i true) ρ s' (a'.put o.dst v) w'') →
            wpAny P .any ops.toArray (fun e a' w' => ∃ s' ρ', Q e s' ∧ Rel ρ' s' a' w' ∧ St fx ρ0 w0 ρ' w') (fuel - 1) (listed.setIfInBounds i true) (a'.put o.dst v) w'' := fun v w'' hh =>
          ih (fuel - 1) (by omega) _ _ _ (by omega) (inv.set hi hil) (by cases o.dst <;> simp [Act.put, has]) hh
        refine ⟨?_, by omega⟩
        unfold wpOp
        rw [ho]
        simp only []
        have hw : Region.wanted o (yielded ops.toArray a'.tmps) = true := by simp [Region.wanted, (C.rdy i o ho').1]
        rw [if_pos hw]
        refine .inl (wp_of_out ?_)
        have hbef : ∀ k, befB ops ops.length i k = true → listed.getD k false = true := fun k hk => befB_listed hcl hk fun oc hoc e he hb => by
          rw [ho'] at hoc; cases hoc
          exact hedge e he hb
        rcases C.all i hil with ⟨p, hp, hpi⟩ | ⟨p, hp, hpi⟩
        · -- the next of the chain
          have hpr : p ∈ rest := by
            rw [hch] at hp
            rcases List.mem_append.1 hp with hp | hp
            · have := hfi.dn p hp
              rw [hpi, hunf] at this; cases this
            · exact hp
          cases rest with
          | nil => cases hpr
          | cons q rest' =>
            obtain ⟨pr, hcb0⟩ := hfi.cb
            have hcb := hcb0
            simp only [chG, Bool.and_eq_true] at hcb
            have hci : q.c = i := by
              rcases List.mem_cons.1 hpr with rfl | hpr
              · exact hpi
              · obtain ⟨_, q, hq, hqb⟩ := chG_next hcb.2 p hpr
                rw [hpi] at hqb
                have h1 := hbef q hqb
                rcases hq with rfl | ⟨p', hp', e⟩
                · have := hfi.rs _ (List.mem_cons_self ..)
                  rw [h1] at this; cases this
                · have := hfi.rs p' (by simp [hp'])
                  rw [e, h1] at this; cases this
            subst hci
            have hnew : ∀ p ∈ q.new, listed.getD p.1 false = true := fun p hp => hbef p.1 (List.all_eq_true.1 hcb.1.1.1.1.2 p hp)
            have hbo : ∀ i ∈ q.born, listed.getD i false = false := fun i hi => by
              cases hl : listed.getD i false with
              | false => rfl
              | true =>
                have h1 := befB_listed hcl (List.all_eq_true.1 hcb.1.1.1.2 i hi) fun oc hoc e he hb => hcl i oc hoc hl e he hb
                rw [hunf] at h1; cases h1
            refine (FG.stepC hT C (fun b hb => hr0.hr.xlt b hb) hch hfi (hin _ hil) ho' hnew hbo).mono fun v w'' ⟨tmF', ρ', s'', hh⟩ => cont _ _ ⟨q.fx, tmF', bn ++ q.born, done ++ [q], rest', β, ρ', s'', by rw [hch]; simp, hh⟩
        · have hpp : p ∈ pendE rest fin := by
            rw [hch, pendE_append] at hp
            rcases List.mem_append.1 hp with hp | hp
            · have := hfi.pd p hp
              rw [hpi, hunf] at this; cases this
            · exact hp
          obtain ⟨pi, it⟩ := p
          simp only at hpi
          subst hpi
          cases it with
          | f d =>
            obtain ⟨hif, oi, hoi, hdi⟩ := C.itf pi d (hpe _ hpp)
            rw [ho'] at hoi; cases hoi
            obtain ⟨o1, d1, ho1, hd1, _, hlook⟩ := C.flo pi hif
            rw [ho'] at ho1; cases ho1
            have hib : pi ∈ bn := by
              rcases hfi.br pi hif with q | ⟨p, q1, q2⟩
              · exact q
              · obtain ⟨pr, hcb⟩ := hfi.cb
                have h1 := hbef p.c (chG_born hcb p q1 pi q2)
                have h2 := hfi.rs p q1
                rw [h1] at h2; cases h2
            obtain ⟨o2, r, ho2, hq, hr⟩ := hfi.re pi d hpp hib
            rw [ho'] at ho2; cases ho2
            refine (hq ρ a' w' hfi.rel.hr fun x hx => ?_).mono fun v w'' ⟨h1, h2⟩ => cont _ _ ⟨fxc, tmF, bn, done, rest, β, ρ, s', hch, hfi.stepF C hch hif hib hunf ho' hdi hpp h1 h2 hr⟩
            cases x with
            | tmp t =>
              simp only [Act.eval, AS.ev, List.getD_eq_getElem?_getD, Array.getD_eq_getD_getElem?]
              have hts : a'.tmps.size = tmF.length := hfi.len
              cases hx1 : tmF[t]? with
              | none => exact .pr (.any _)
              | some x =>
                have htl := (List.getElem?_eq_some_iff.1 hx1).1
                have hv := Array.getElem?_eq_getElem (xs := a'.tmps) (i := t) (by rw [hts]; exact htl)
                rw [hv]
                exact hfi.kn t _ x (fun k ok hok hkd => by
                  rcases hlook t (looks_ops hx) k ok hok hkd with ⟨q1, q2⟩ | ⟨⟨p, q1, q3⟩, q2⟩
                  rotate_left
                  · rw [hch] at q1
                    rcases List.mem_append.1 q1 with q1 | q1
                    · have h1 := hfi.dn p q1
                      rw [q3] at h1
                      have h2 := befB_listed hcl q2 fun oc hoc e he hb => hcl k oc hoc h1 e he hb
                      rw [hunf] at h2; cases h2
                    · exact .inr ⟨p, q1, q3⟩
                  have hl := hbef k q2
                  refine .inl ⟨?_, hl⟩
                  rcases q1 with q1 | ⟨p, q1, q3⟩
                  · exact .inl q1
                  · rw [hch] at q1
                    rcases List.mem_append.1 q1 with q1 | q1
                    · exact .inr ⟨p, q1, q3⟩
                    · have h2 := hfi.rs p q1
                      rw [q3, hl] at h2; cases h2) hv hx1
            | const v => exact .ofV v
            | global g => exact .pr (.any _)
            | func f => exact .fn f #[] [] rfl (by simp)
          | a d e =>
            obtain ⟨hnf, oi, hoi, hdi, hop, _⟩ := C.ita pi d e (hpe _ hpp)
            rw [ho'] at hoi; cases hoi
            have hok : (T e).kd.ok = true := List.all_eq_true.1 hA _ (hpe _ hpp)
            obtain ⟨c, q1, q2, q3⟩ := alloc_run hT hok w'
            simp only [execOp, hop, Sem.run_bind, q1, Result.andThen_ok, Sem.run_pure, Out]
            exact cont _ _ ⟨fxc, tmF, bn, done, rest, _, _, s', hch, hfi.stepA C hch hunf (hin _ hil) ho' hdi hpp q2 q3⟩
      cases fuel with
      | zero => exact absurd (step i0 hready0).2 (by omega)
      | succ fuel => exact ⟨fun h0 => (by rw [h0] at hready0; cases hready0), fun i hi => (step i hi).1⟩
  have hw1 : Grow w0 w0.drew := Grow.drew
  refine key _ _ _ _ ?_ ⟨by simp, fun j oj hj hl => ?_, fun t h1 h2 => ?_⟩ hr0.size ⟨fx', tmF, fl0, [], ch, fun _ => 0, ρ0, clr s (pendE ch fin), rfl, ⟨fun p hp => (by cases hp), fun p _ => getD_replicate_false _ _, ⟨none, C.chn⟩, fun q hq => (by cases hq), Rel.clr _ _ (hr0.grow hw1), (by rw [hlen]; exact hr0.size), hgo, C.bsub.1, C.brn, fun i hi hl => (by rw [getD_replicate_false] at hl; cases hl), fun i d hi hib => ?_, fun p hp x hx => clr_any _ _ p x (.inl hp) hx, fun t v x hk hv hx => ?_, hw1.fr _, fun b _ ho => ho, fun r _ x hx => hx, fun b hb => hb, fun b hb => .inl hb, fun i d e _ hl => ?_, fun i d e i' d' e' _ _ hl => ?_⟩⟩
  · rw [hsz]
    simp only [unl]
    rw [List.countP_eq_length.2 (fun k hk => ?_)]
    · simp
    · have := List.mem_range.1 hk
      simp [this]
  · rw [getD_replicate_false] at hl; cases hl
  · rw [hsz] at h2; omega
  · obtain ⟨hif, oi, hoi, hdi⟩ := C.itf i d hi
    obtain ⟨o, d', r, ho, hd, hq, hr⟩ := hfacts i hib
    rw [hoi] at ho; cases ho
    rw [hdi] at hd; cases hd
    exact ⟨oi, r, hoi, hq.congr (clr_L _ _) fun _ _ => rfl, hr⟩
  · have hb : tmF[t]? = (s.tm.map (AV.filt (inR fx')))[t]? := hbase t fun i hi o ho hd => by
      rcases hk i o ho hd with ⟨_, this⟩ | ⟨p, q1, q2⟩
      · rw [getD_replicate_false] at this; cases this
      · exact absurd (C.bsub.1 i hi) (q2 ▸ (C.dis p q1).1)
    rw [hb, List.getElem?_map] at hx
    cases hq : s.tm[t]? with
    | none => simp [hq] at hx
    | some y =>
      simp [hq] at hx; subst hx
      exact ((hr0.tm t v y hv hq).filtd _).grow hw1
  · rw [getD_replicate_false] at hl; cases hl
  · rw [getD_replicate_false] at hl; cases hl

theorem awp_floatG (hT : TTOk P T) (hm : P.follows .mixedOrders = true) {id : Nat} {ops : List Oper} {Q : Exit → AS → Prop} {s : AS} (fx' fl fl0 : List Nat) (ch : List En) (fin : List (Nat × It)) (hB : floatG fx fx' ops fl fl0 ch fin = true) (hA : itOk T (pendE ch fin) = true)
    (h : sxF P T fx' ops fl0 ⟨s.tm.map (AV.filt (inR fx')), s.L⟩ (KG P T bl ops fin ch s (Q .normal))) : awp P fx (.region id ops.toArray true) Q s := fun ρ a w hr => wp_region_any hm (any_floatG hT hm fx' fl fl0 ch fin hB hA h ρ a w hr)


/-! ### The rules of the walk -/

theorem KG_x (ops : List Oper) (fin : List (Nat × It)) (ch : List En) (s : AS) (K : AS → Prop) (tmF : List AV) : KG P T bl ops fin ch s K tmF = sxG P T bl ops fin ch tmF (clr s (pendE ch fin)) K := nrf rfl
theorem pendE_nil (fin : List (Nat × It)) : pendE [] fin = fin := nrf rfl
theorem pendE_cons (c : Nat) (fx : List Nat) (new : List (Nat × It)) (born : List Nat) (chk : List (Nat × It)) (rest : List En) (fin : List (Nat × It)) : pendE (⟨c, fx, new, born, chk⟩ :: rest) fin = new ++ pendE rest fin := nrf rfl
def joinV (fx : List Nat) (dst : Option Tmp) (tm : List AV) : AV := match dst with | some d => (tm.getD d .any).filt (inR fx) | none => .any
theorem joinV_some (fx : List Nat) (d : Tmp) (tm : List AV) : joinV fx (some d) tm = (tm.getD d .any).filt (inR fx) := nrf rfl
theorem joinV_none (fx : List Nat) (tm : List AV) : joinV fx none tm = .any := nrf rfl
def GRest (P : Program) (T : TypeId → Ty) (bl : List Nat) (ops : List Oper) (fin : List (Nat × It)) (rest : List En) (tmF : List AV) (K : AS → Prop) (s : AS) : Prop := sxG P T bl ops fin rest tmF s K
theorem GRest_x (ops : List Oper) (fin : List (Nat × It)) (rest : List En) (tmF : List AV) (K : AS → Prop) (s : AS) : GRest P T bl ops fin rest tmF K s = sxG P T bl ops fin rest tmF s K := nrf rfl
def GRe (P : Program) (T : TypeId → Ty) (bl : List Nat) (ops : List Oper) (fin : List (Nat × It)) (fx : List Nat) (chk : List (Nat × It)) (rest : List En) (K : AS → Prop) (s : AS) (tmF : List AV) : Prop := sxRe P T fx ops tmF chk (clr s (pendE rest fin)) (GRest P T bl ops fin rest tmF K)
theorem GRe_x (ops : List Oper) (fin : List (Nat × It)) (fx : List Nat) (chk : List (Nat × It)) (rest : List En) (K : AS → Prop) (s : AS) (tmF : List AV) : GRe P T bl ops fin fx chk rest K s tmF = sxRe P T fx ops tmF chk (clr s (pendE rest fin)) (GRest P T bl ops fin rest tmF K) := nrf rfl
def GNx (P : Program) (T : TypeId → Ty) (bl : List Nat) (ops : List Oper) (fin : List (Nat × It)) (fx : List Nat) (born : List Nat) (chk : List (Nat × It)) (rest : List En) (dst : Option Tmp) (tmF : List AV) (K : AS → Prop) (s : AS) : Prop := sxF P T fx ops born ⟨joinF fx dst tmF s, s.L⟩ (GRe P T bl ops fin fx chk rest K s)
theorem GNx_x (ops : List Oper) (fin : List (Nat × It)) (fx : List Nat) (born : List Nat) (chk : List (Nat × It)) (rest : List En) (dst : Option Tmp) (tmF : List AV) (K : AS → Prop) (tm : List AV) (L : List OB) : GNx P T bl ops fin fx born chk rest dst tmF K ⟨tm, L⟩ = sxF P T fx ops born ((⟨tmF.map (AV.filt (inR fx)), L⟩ : AS).put dst (joinV fx dst tm)) (GRe P T bl ops fin fx chk rest K ⟨tm, L⟩) := by
  unfold GNx joinF joinV
  cases dst <;> rfl
def HGo (P : Program) (T : TypeId → Ty) (bl : List Nat) (ops : List Oper) (fin : List (Nat × It)) (fx : List Nat) (new : List (Nat × It)) (born : List Nat) (chk : List (Nat × It)) (rest : List En) (tmF : List AV) (s : AS) (K : AS → Prop) (o : Oper) : Prop := aOp P T fx bl o (addI T tmF s new) (GNx P T bl ops fin fx born chk rest o.dst tmF K)
theorem HGo_x (ops : List Oper) (fin : List (Nat × It)) (fx : List Nat) (new : List (Nat × It)) (born : List Nat) (chk : List (Nat × It)) (rest : List En) (tmF : List AV) (s : AS) (K : AS → Prop) (dst : Option Tmp) (op : Op) (ty : TypeId) (pos : String) (after : Array Edge) (g : Option (Nat × Bool)) :
    HGo P T bl ops fin fx new born chk rest tmF s K { dst := dst, op := op, type := ty, pos := pos, after := after, guard := g } = aOp P T fx bl { dst := dst, op := op, type := ty, pos := pos, after := after, guard := g } (addI T tmF s new) (GNx P T bl ops fin fx born chk rest dst tmF K) := nrf rfl
theorem sxG_nil (ops : List Oper) (fin : List (Nat × It)) (tmF : List AV) (s : AS) (K : AS → Prop) : sxG P T bl ops fin [] tmF s K = K (addI T tmF s fin) := nrf rfl
theorem sxG_cons (ops : List Oper) (fin : List (Nat × It)) (c : Nat) (fx : List Nat) (new : List (Nat × It)) (born : List Nat) (chk : List (Nat × It)) (rest : List En) (tmF : List AV) (s : AS) (K : AS → Prop) : sxG P T bl ops fin (⟨c, fx, new, born, chk⟩ :: rest) tmF s K = Opt ops[c]? (HGo P T bl ops fin fx new born chk rest tmF s K) := by
  simp only [sxG, Opt]
  cases ops[c]? with
  | none => simp
  | some o => simp [HGo]; exact Iff.rfl
theorem DAlh0 : type_of% @KG_x ∧ type_of% @pendE_nil ∧ type_of% @pendE_cons ∧ type_of% @joinV_some ∧ type_of% @joinV_none ∧ type_of% @GRest_x ∧ type_of% @GRe_x ∧ type_of% @GNx_x ∧ type_of% @HGo_x ∧ type_of% @sxG_nil ∧ type_of% @sxG_cons := ⟨@KG_x, @pendE_nil, @pendE_cons, @joinV_some, @joinV_none, @GRest_x, @GRe_x, @GNx_x, @HGo_x, @sxG_nil, @sxG_cons⟩

end

end Go.Pc
