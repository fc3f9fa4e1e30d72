/- The abstract logic: rows that hold own rows. -/
import Derived.Test.YtkcpcmobmalijaaAlf
import Derived.Test.YtkcpcmobmalijaaAlh
set_option linter.unusedSimpArgs false
set_option linter.unusedVariables false
namespace Go.Pc
open Go Go.Proofs
variable {fx : List Nat}

theorem Rel.setL {ρ : Env} {s : AS} {a : Act} {w : World} (h : Rel ρ s a w) {r : Nat} {o o' : OB} (hL : s.L[r]? = some o) (hf : ∀ S it, o' ≠ .forest S it) (he : ∀ l, EntR w ρ l o → EntR w ρ l o') : Rel ρ { s with L := s.L.set r o' } a w := by
  have hfo : ∀ {r' : Nat} {S : Nat → Prop} {items : List (Value × AV)}, (s.L.set r o')[r']? = some (OB.forest S items) → s.L[r']? = some (OB.forest S items) := fun {r' S items} hh => by
    by_cases hr : r = r'
    · subst hr
      simp only [List.getElem?_set] at hh
      simp at hh
      exact absurd hh.2 (hf S items)
    · rwa [List.getElem?_set_ne hr] at hh
  refine ⟨h.dfr, h.size, h.tm, ⟨by simpa using h.hr.len, h.hr.xlt, h.hr.disj, h.hr.inj, fun r' o'' l h1 h2 => ?_, ⟨h.hr.t.lt, h.hr.t.dl, fun r S items b hL hS => h.hr.t.sub r S items b (hfo hL) hS, fun r r' S S' items items' b h1 h2 => h.hr.t.dis r r' S S' items items' b (hfo h1) (hfo h2)⟩⟩⟩
  by_cases hr : r = r'
  · subst hr
    simp only [List.getElem?_set] at h1
    simp at h1
    obtain ⟨_, rfl⟩ := h1
    exact he l (h.hr.ent r o l hL h2)
  · rw [List.getElem?_set_ne hr] at h1
    exact h.hr.ent r' o'' l h1 h2

/-! ### Two own blocks change their numbers -/

def swN2 (r q j : Nat) : Nat := if j = r then q else if j = q then r else j
theorem swN2_inv (r q j : Nat) : swN2 r q (swN2 r q j) = j := by unfold swN2; by_cases h1 : j = r <;> by_cases h2 : j = q <;> by_cases h3 : q = r <;> simp [h1, h2, h3] <;> omega
theorem swN2_inj {r q i j : Nat} (h : swN2 r q i = swN2 r q j) : i = j := by rw [← swN2_inv r q i, h, swN2_inv]
def swapL {α : Type} (xs : List α) (r q : Nat) (d : α) : List α := (xs.set r (xs.getD q d)).set q (xs.getD r d)
theorem swapL_len {α : Type} (xs : List α) (r q : Nat) (d : α) : (swapL xs r q d).length = xs.length := by simp [swapL]
theorem swapL_get {α : Type} {xs : List α} {r q : Nat} {d : α} (hr : r < xs.length) (hq : q < xs.length) (i : Nat) : (swapL xs r q d)[i]? = xs[swN2 r q i]? := by
  unfold swapL swN2
  by_cases hiq : q = i
  · subst hiq
    rw [List.getElem?_set_self (by simpa using hq)]
    by_cases hqr : q = r
    · subst hqr; rw [if_pos rfl]; simp [List.getD_eq_getElem?_getD, hq]
    · rw [if_neg hqr, if_pos rfl]; simp [List.getD_eq_getElem?_getD, hr]
  · rw [List.getElem?_set_ne hiq]
    by_cases hir : r = i
    · subst hir
      rw [List.getElem?_set_self hr, if_pos rfl]; simp [List.getD_eq_getElem?_getD, hq]
    · rw [List.getElem?_set_ne hir, if_neg (fun e => hir e.symm), if_neg (fun e => hiq e.symm)]

def AS.swap (s : AS) (r q : Nat) : AS := { tm := s.tm.map (AV.ren (swN2 r q)), L := swapL (s.L.map (OB.ren (swN2 r q))) r q .dead }

theorem wk_swap {s : AS} {r q : Nat} (hr : r < s.L.length) (hq : q < s.L.length) (hrf : r ∉ fx) (hqf : q ∉ fx) : Wk fx s (s.swap r q) := fun ρ a w h => by
  have hr' : r < ρ.l.length := by rw [h.hr.len]; exact hr
  have hq' : q < ρ.l.length := by rw [h.hr.len]; exact hq
  let ρ' : Env := { ρ with l := swapL ρ.l r q none }
  have hg : ∀ j, ρ'.l[j]? = ρ.l[swN2 r q j]? := fun j => swapL_get hr' hq' j
  have hσ : ∀ (j : Nat) l, ρ.l[j]? = some l → ρ'.l[swN2 r q j]? = some l := fun j l hj => by rw [hg, swN2_inv]; exact hj
  have hown : ∀ b, own ρ' b → own ρ b := fun b hb => by
    rcases hb with ⟨j, base, hj⟩ | hb
    · rw [hg] at hj; exact .l hj
    · exact .inr hb
  have hno : ∀ b, b < w.heap.size → no ρ' b → no ρ b := fun b _ hb => by
    rcases hb with hb | hb
    · exact .inl (hown b hb)
    · exact .inr hb
  have hget : ∀ {j : Nat} {o : OB}, (s.swap r q).L[j]? = some o → ∃ o0, s.L[swN2 r q j]? = some o0 ∧ o = o0.ren (swN2 r q) := fun {j o} hj => by
    unfold AS.swap at hj
    simp only at hj
    rw [swapL_get (by simpa using hr) (by simpa using hq), List.getElem?_map] at hj
    cases ho : s.L[swN2 r q j]? with
    | none => simp [ho] at hj
    | some o0 => simp [ho] at hj; exact ⟨o0, rfl, hj.symm⟩
  have hfo : ∀ {j : Nat} {S : Nat → Prop} {items : List (Value × AV)}, (s.swap r q).L[j]? = some (OB.forest S items) → s.L[swN2 r q j]? = some (OB.forest S items) := fun {j S items} hj => by
    obtain ⟨o0, h1, h2⟩ := hget hj
    cases o0 <;> simp [OB.ren] at h2
    rw [h1, h2.1, h2.2]
  refine ⟨ρ', ⟨h.dfr, by simpa [AS.swap] using h.size, fun i v x h1 h2 => ?_, ⟨by simp [ρ', AS.swap, swapL_len, h.hr.len], h.hr.xlt, fun b hb => h.hr.disj b (hown b hb), fun i j b base base' h1 h2 => ?_, fun i o l h1 h2 => ?_, ⟨h.hr.t.lt, fun b i base hb hi => ?_, fun i S items b hi hS => h.hr.t.sub _ S items b (hfo hi) hS, fun i j S S' items items' b h1 h2 hS hS' => swN2_inj (h.hr.t.dis _ _ S S' items items' b (hfo h1) (hfo h2) hS hS')⟩⟩⟩, ⟨.refl, fun b _ hb => hown b hb, fun j hj x hx => ?_, rfl⟩⟩
  · simp only [AS.swap, List.getElem?_map] at h2
    cases hx : s.tm[i]? with
    | none => simp [hx] at h2
    | some y => simp [hx] at h2; subst h2; exact (h.tm i v y h1 hx).ren _ hσ hno
  · rw [hg] at h1 h2
    exact swN2_inj (h.hr.inj _ _ _ _ _ h1 h2)
  · obtain ⟨o0, h3, rfl⟩ := hget h1
    rw [hg] at h2
    exact (h.hr.ent _ o0 l h3 h2).ren _ hσ hno
  · rw [hg] at hi
    exact h.hr.t.dl b _ base hb hi
  · rw [hg]
    have : swN2 r q j = j := by
      unfold swN2
      rw [if_neg (fun e : j = r => hrf (e ▸ hj)), if_neg (fun e : j = q => hqf (e ▸ hj))]
    rw [this]; exact hx

/-! ### A row that names an own row: its header is told exactly while the row is built -/

section
variable {P : Program} {T : TypeId → Ty} {bl : List Nat}

theorem VR.osfix {w w' : World} {ρ ρ' : Env} {v : Value} {r k off n : Nat} (h : VR w ρ v (.os r k off n)) (hst : St (r :: fx) ρ w ρ' w') : VR w' ρ' v (.os r k off n) := by
  have hf := hst.fix r (by simp)
  cases h with
  | pr hp => cases hp
  | osnil _ _ h => exact .osnil r k (hf _ h)
  | osz _ _ _ a b base h => exact .osz r k off a b base (hf _ h)
  | os _ _ _ _ c b base cs e fz h hc hb hsz =>
    obtain ⟨c', h1, h2⟩ := hst.fr.size b cs e fz hb
    exact .os r k off n c b base c' e fz (hf _ h) hc h1 (by omega)
theorem St.tail {r : Nat} {ρ ρ' : Env} {w w' : World} (h : St (r :: fx) ρ w ρ' w') : St fx ρ w ρ' w' := ⟨h.fr, h.sub, fun r' hr' => h.fix r' (by simp [hr']), h.x⟩

/-- At the end the row's last cell, told exactly, is the own row again. -/
def TieK (q t : Nat) (v : Value) (x : AV) (K : AS → Prop) (s : AS) : Prop := ∃ cs, s.L[q]? = some (.vec 1 ((cs ++ [AV.val v]).map fun c => [c])) ∧ s.tm[t]? = some (.val v) ∧ K { tm := s.tm.set t x, L := s.L.set q (.slab (cs ++ [x])) }
theorem tieK {q t : Nat} {v : Value} {x : AV} {K : AS → Prop} {s : AS} (cs : List AV) (h1 : s.L[q]? = some (.vec 1 ((cs ++ [AV.val v]).map fun c => [c]))) (h2 : s.tm[t]? = some (.val v)) (h3 : K { tm := s.tm.set t x, L := s.L.set q (.slab (cs ++ [x])) }) : TieK q t v x K s := ⟨cs, h1, h2, h3⟩

theorem tie_rel {ρ : Env} {s : AS} {a : Act} {w : World} {q t : Nat} {v : Value} {x : AV} {K : AS → Prop} (h : TieK q t v x K s) (hr : Rel ρ s a w) (hv : VR w ρ v x) : ∃ s', K s' ∧ Rel ρ s' a w := by
  obtain ⟨cs, h1, h2, h3⟩ := h
  refine ⟨_, h3, ?_⟩
  have hR : Rel ρ { s with L := s.L.set q (.slab (cs ++ [x])) } a w := hr.setL h1 (fun S it hh => by cases hh) fun l h => by
    obtain ⟨_, _, h | ⟨b, base, c, e, g1, g2, g3, g4⟩⟩ := h
    · simp at h
    · refine .inr ⟨b, base, c, e, g1, g2, by simpa using g3, fun i u y h5 h6 => ?_⟩
      by_cases hi : i < cs.length
      · rw [List.getElem?_append_left hi] at h6
        obtain ⟨u', h7, h8⟩ := g4 i 0 [y] y (by rw [List.map_append, List.getElem?_append_left (by simpa using hi)]; simp [h6]) rfl
        rw [Nat.mul_one, Nat.add_zero, h5] at h7
        cases h7
        exact .pr h8
      · rw [List.getElem?_append_right (by omega)] at h6
        have hi0 : i - cs.length = 0 := by
          rcases Nat.eq_zero_or_pos (i - cs.length) with h | h
          · exact h
          · rw [List.getElem?_eq_none (by simp; omega)] at h6; cases h6
        rw [hi0] at h6
        cases h6
        obtain ⟨u', h7, h8⟩ := g4 i 0 [.val v] (.val v) (by rw [List.map_append, List.getElem?_append_right (by simp; omega)]; simp [hi0]) rfl
        rw [Nat.mul_one, Nat.add_zero, h5] at h7
        cases h7
        cases h8
        exact hv
  refine ⟨hR.dfr, by simpa using hR.size, fun i u y h4 h5 => ?_, hR.hr⟩
  by_cases hi : t = i
  · subst hi
    simp only at h5
    rw [List.getElem?_set_self (List.getElem?_eq_some_iff.1 h2).1] at h5
    cases h5
    have := val_inv (hr.tm t u _ h4 h2)
    rw [this]; exact hv
  · simp only at h5
    rw [List.getElem?_set_ne hi] at h5
    exact hR.tm i u y h4 h5

/-- A region in the order of the text, cut after some operations: what is told of the rest is any lawful thing. -/
theorem sxOps_gen (hT : TTOk P T) (all l2 : List Oper) {K B : AS → Prop} {ρ0 : Env} {w0 : World} (hB : ∀ (s : AS) (ρ : Env) (a : Act) (w : World), B s → Rel ρ s a w → St fx ρ0 w0 ρ w → wpList P all.toArray (fun e a' w' => ∃ s' ρ', (match e with | .normal => K s' | _ => False) ∧ Rel ρ' s' a' w' ∧ St fx ρ0 w0 ρ' w') l2 a w) :
    ∀ (l : List Oper) (s : AS) (ρ : Env) (a : Act) (w : World), sxOps P T fx bl all l s B → Rel ρ s a w → St fx ρ0 w0 ρ w →
    wpList P all.toArray (fun e a' w' => ∃ s' ρ', (match e with | .normal => K s' | _ => False) ∧ Rel ρ' s' a' w' ∧ St fx ρ0 w0 ρ' w') (l ++ l2) a w
  | [], s, ρ, a, w, h, hr, hst => hB s ρ a w h hr hst
  | o :: rest, s, ρ, a, w, h, hr, hst => by
    have go : aOp P T fx bl o s (fun s' => sxOps P T fx bl all rest s' B) → o.wp P a w (wpList P all.toArray (fun e a' w' => ∃ s' ρ', (match e with | .normal => K s' | _ => False) ∧ Rel ρ' s' a' w' ∧ St fx ρ0 w0 ρ' w') (rest ++ l2)) (fun e a' w' => ∃ s' ρ', (match e with | .normal => K s' | _ => False) ∧ Rel ρ' s' a' w' ∧ St fx ρ0 w0 ρ' w') := fun ha =>
      wp_of_out ((aOp_sound hT ha ρ a w hr).mono fun v w' ⟨s', ρ', h1, h2, h3⟩ => sxOps_gen hT all l2 hB rest s' ρ' _ w' h1 h2 (hst.trans h3))
    rw [List.cons_append]
    unfold wpList
    simp only [sxOps] at h
    cases hg : o.guard with
    | none =>
      rw [hg] at h
      rw [if_pos (by simp [Region.wanted, hg])]
      exact .inl (go h)
    | some gw =>
      obtain ⟨g, want⟩ := gw
      rw [hg] at h
      simp only at h
      split at h
      · rename_i b hb
        have hy := gBool_sound hb hr
        by_cases hbw : b = want
        · rw [if_pos (by simp [Region.wanted, hg, hy, hbw])]
          exact .inl (go (h.1 hbw))
        · rw [if_neg (by simp [Region.wanted, hg, hy, hbw])]
          exact sxOps_gen hT all l2 hB rest _ ρ _ w (h.2 (by cases b <;> cases want <;> simp_all)) (hr.put o.dst (.pr (.val _))) hst
      · rename_i hb
        have hy := gBool_sound hb hr
        rw [if_neg (by simp [Region.wanted, hg, hy])]
        exact sxOps_gen hT all l2 hB rest _ ρ _ w h (hr.put o.dst (.pr (.val _))) hst
      · cases h

theorem VR.pure {w : World} {ρ : Env} {v : Value} {x : AV} (h : VR w ρ v x) (hx : x.pure = true) : PR w (no ρ) v x := by
  cases h with
  | pr h => exact h
  | _ => simp [AV.pure] at hx

/-- A slab of pure cells may be taken for a row. -/
theorem wk_unslab {s : AS} {r : Nat} {cs : List AV} (hL : s.L[r]? = some (.slab cs)) (hp : cs.all AV.pure = true) : Wk fx s { s with L := s.L.set r (.vec 1 (cs.map fun c => [c])) } := fun ρ a w hr => by
  refine ⟨ρ, hr.setL hL (fun S it hh => by cases hh) fun l h => ⟨by omega, fun i e he => ?_, ?_⟩, .refl⟩
  · rw [List.getElem?_map] at he
    cases hx : cs[i]? with
    | none => simp [hx] at he
    | some y => simp [hx] at he; subst he; rfl
  · rcases h with h | ⟨b, base, c, e, g1, g2, g3, g4⟩
    · exact .inl ⟨h.1, by simp [h.2]⟩
    · refine .inr ⟨b, base, c, e, g1, g2, by simpa using g3, fun i j ei x h5 h6 => ?_⟩
      rw [List.getElem?_map] at h5
      cases hx : cs[i]? with
      | none => simp [hx] at h5
      | some y =>
        simp [hx] at h5; subst h5
        cases j with
        | succ j => simp at h6
        | zero =>
          simp at h6; subst h6
          have hi : i < cs.length := (List.getElem?_eq_some_iff.1 hx).1
          have hj : base + i < c.size := by omega
          refine ⟨c[base + i], by rw [Nat.mul_one, Nat.add_zero]; simp [hj], (g4 i _ _ (by simp [hj]) hx).pure ?_⟩
          exact List.all_eq_true.1 hp _ (List.mem_of_getElem? hx)

theorem awp_blockI {id : Nat} {c : Code} {Q : Exit → AS → Prop} {s : AS} (h : awp P fx c (InB id Q) s) : awp P fx (.block id c) Q s := fun ρ a w hr => by
  refine wp_block (wp_mono (h ρ a w hr) fun e a' w' ⟨s', ρ', h1, h2⟩ => ?_)
  cases e with
  | exit i =>
    simp only [InB] at h1
    simp only [Exit.inBlock]
    split
    · rename_i hi; rw [if_pos hi] at h1; exact ⟨s', ρ', h1, h2⟩
    · rename_i hi; rw [if_neg hi] at h1; exact ⟨s', ρ', h1, h2⟩
  | _ => exact ⟨s', ρ', h1, h2⟩
theorem awp_seqB {x y : Code} {Q : Exit → AS → Prop} {s : AS} (h : awp P fx x (AThen P fx y Q) s) : awp P fx (.seq x y) Q s := awp_seq h
end

end Go.Pc
