/- The abstract logic, tenth part: bodies and what they return; own rows become immutable; quiet calls out of contracts. -/
import Derived.Test.YtjeabpbpoomlmaaAld
set_option linter.unusedSimpArgs false
set_option linter.unusedVariables false
namespace Go.Pc
open Go

section
variable {P : Program} {T : TypeId → Ty} {fx bl : List Nat}

/-! ### Own rows become immutable; a nil slice becomes an own row -/

mutual
def AV.frz (r kk : Nat) (es : List (List AV)) : AV → AV
  | .any => .any
  | .val v => .val v
  | .agg l => .agg (frzL r kk es l)
  | .tup l => .tup (frzL r kk es l)
  | .sl e => .sl e
  | .ip cs => .ip cs
  | .ptr q off => if q = r then .any else .ptr q off
  | .vp q k i off => if q = r then .any else .vp q k i off
  | .os q k off n => if q = r then (if k = kk ∧ off + n ≤ es.length then .sl ((es.drop off).take n) else .any) else .os q k off n
  | .fn f l => .fn f (frzL r kk es l)
def frzL (r kk : Nat) (es : List (List AV)) : List AV → List AV
  | [] => []
  | x :: l => x.frz r kk es :: frzL r kk es l
end

theorem frzL_map (r kk : Nat) (es : List (List AV)) (l : List AV) : frzL r kk es l = l.map (AV.frz r kk es) := by
  induction l with
  | nil => rfl
  | cons x l ih => simp [frzL, ih]

def OB.frz (r kk : Nat) (es : List (List AV)) : OB → OB
  | .cells cs => .cells (cs.map (AV.frz r kk es))
  | o => o

def AS.frz (s : AS) (r kk : Nat) (es : List (List AV)) : AS := { tm := s.tm.map (AV.frz r kk es), L := (s.L.map (OB.frz r kk es)).set r .dead }

theorem own_none {ρ : Env} {r b : Nat} (h : own (ρ.at r none) b) : (∃ r' base, r' ≠ r ∧ ρ.l[r']? = some (some (b, base))) ∨ ρ.T b := by
  rcases own_at h with h | ⟨base, h⟩ | h
  · exact .inl h
  · cases h
  · exact .inr h
theorem own_none' {ρ : Env} {r b : Nat} (h : own (ρ.at r none) b) : own ρ b := by
  rcases own_none h with ⟨r', base, _, h⟩ | h
  · exact .l h
  · exact .inr h

theorem VR.frz {w : World} {ρ : Env} {L : List OB} (hh : HR w ρ L) {r k : Nat} {es : List (List AV)} (hL : L[r]? = some (.vec k es)) {v : Value} {x : AV} (h : VR w ρ v x) : VR w (ρ.at r none) v (x.frz r k es) := by
  have hno : ∀ b, b < w.heap.size → no (ρ.at r none) b → no ρ b := fun b _ hb => by
    rcases hb with hb | hb
    · exact .inl (own_none' hb)
    · exact .inr hb
  have hkeep : ∀ (q : Nat) l, q ≠ r → ρ.l[q]? = some l → (ρ.at r none).l[q]? = some l := fun q l hq hl => by
    simp only [Env.at]
    rw [List.getElem?_set_ne (Ne.symm hq)]
    exact hl
  induction h with
  | pr h =>
    have h' := h.mono (w' := w) (o' := no (ρ.at r none)) (fun _ _ _ => rfl) (Nat.le_refl _) hno
    cases h' <;> simp only [AV.frz] <;> first | exact .pr (.any _) | exact .pr (.val _) | exact .pr (.slnil _ _) | (rename_i h0 hc hk ho' hlt hl hcell hread; exact .pr (.sl _ _ _ _ _ _ _ ‹_› h0 hc hk ho' hlt hl hcell hread))
  | agg c l hs _ ih =>
    simp only [AV.frz, frzL_map]
    refine .agg c _ (by simpa using hs) fun i v x hv hx => ?_
    rw [List.getElem?_map] at hx
    cases hl : l[i]? with
    | none => simp [hl] at hx
    | some y => simp [hl] at hx; subst hx; exact ih i v y hv hl
  | tup c l hs _ ih =>
    simp only [AV.frz, frzL_map]
    refine .tup c _ (by simpa using hs) fun i v x hv hx => ?_
    rw [List.getElem?_map] at hx
    cases hl : l[i]? with
    | none => simp [hl] at hx
    | some y => simp [hl] at hx; subst hx; exact ih i v y hv hl
  | ip b o cs cv ho' hlt hcell hread =>
    simp only [AV.frz]
    exact .ip b o cs cv (fun hb => ho' (hno b hlt hb)) hlt hcell (fun j x hx => (hread j x hx).mono (fun _ _ _ => rfl) (Nat.le_refl _) hno)
  | ptr q off b base hr =>
    simp only [AV.frz]; split
    · exact .pr (.any _)
    · rename_i hq; exact .ptr q off b base (hkeep _ _ hq hr)
  | vp q k2 i off b base hr =>
    simp only [AV.frz]; split
    · exact .pr (.any _)
    · rename_i hq; exact .vp q k2 i off b base (hkeep _ _ hq hr)
  | osnil q k2 hr =>
    simp only [AV.frz]; split
    · split
      · simp only [List.take_zero]; exact .pr (.slnil _ _)
      · exact .pr (.any _)
    · rename_i hq; exact .osnil q k2 (hkeep _ _ hq hr)
  | osz q k2 off a b base hr =>
    simp only [AV.frz]; split
    · split
      · simp only [List.take_zero]; exact .pr (.slnil _ _)
      · exact .pr (.any _)
    · rename_i hq; exact .osz q k2 off a b base (hkeep _ _ hq hr)
  | os q k' off n c b base cs e fz hr hc hb hsz =>
    simp only [AV.frz]; split
    · rename_i hq
      subst hq
      split
      · rename_i hle
        obtain ⟨rfl, hle⟩ := hle
        by_cases hn : n = 0
        · subst hn
          simp only [List.take_zero]
          exact .pr (.slnil _ _)
        · obtain ⟨h0, hl, hd⟩ := hh.ent q _ _ hL hr
          rcases hd with ⟨hd, _⟩ | ⟨b', base', c', ty, g1, g2, g3, g4⟩
          · cases hd
          · cases g1
            rw [hb] at g2
            cases g2
            have hnob : ¬ no (ρ.at q none) b := fun hb' => by
              rcases hb' with hb' | hb'
              · rcases own_none hb' with ⟨r', base', hne, h'⟩ | h'
                · exact hne (hh.inj _ _ _ _ _ h' hr)
                · exact hh.t.dl b q base h' hr
              · exact hh.disj b (.l hr) hb'
            have hblt : b < w.heap.size := (Array.getElem?_eq_some_iff.1 hb).1
            have hin : ∀ (i : Nat) e', ((es.drop off).take n)[i]? = some e' → i < n ∧ es[off + i]? = some e' := fun i e' he => by
              have hi : i < n := by
                rcases Nat.lt_or_ge i n with h' | h'
                · exact h'
                · rw [List.getElem?_eq_none (by simp; omega)] at he; cases he
              rw [List.getElem?_take_of_lt hi, List.getElem?_drop] at he
              exact ⟨hi, he⟩
            refine .pr (.sl b (base + off * k') k' n c _ (fun i j => (cs[base + (off + i) * k' + j]?).getD undef) (by simp; omega) (by omega) hc h0 hnob hblt (fun i e' he => hl _ _ (hin i e' he).2) (fun i j e' x he hx => ?_) fun i j e' x he hx => ?_)
            · obtain ⟨u, q1, q2⟩ := g4 _ j e' x (hin i e' he).2 hx
              simp only [World.cell?, hb]
              rw [show base + off * k' + i * k' + j = base + (off + i) * k' + j by rw [Nat.add_mul]; omega, q1]
              simp
            · obtain ⟨u, q1, q2⟩ := g4 _ j e' x (hin i e' he).2 hx
              rw [q1]
              exact q2.mono (fun _ _ _ => rfl) (Nat.le_refl _) hno
      · exact .pr (.any _)
    · rename_i hq; exact .os q k' off n c b base cs e fz (hkeep _ _ hq hr) hc hb hsz
  | fn f c l hs _ ih =>
    simp only [AV.frz, frzL_map]
    refine .fn f c _ (by simpa using hs) fun i v x hv hx => ?_
    rw [List.getElem?_map] at hx
    cases hl : l[i]? with
    | none => simp [hl] at hx
    | some y => simp [hl] at hx; subst hx; exact ih i v y hv hl

theorem wk_frz {s : AS} {r k : Nat} {es : List (List AV)} (hL : s.L[r]? = some (.vec k es)) (hfx : r ∉ fx) : Wk fx s (s.frz r k es) := fun ρ a w hr => by
  have hno : ∀ b, no (ρ.at r none) b → no ρ b := fun b hb => by
    rcases hb with hb | hb
    · exact .inl (own_none' hb)
    · exact .inr hb
  have hget : ∀ {q b base}, (ρ.at r none).l[q]? = some (some (b, base)) → q ≠ r ∧ ρ.l[q]? = some (some (b, base)) := fun {q b base} hq => by
    simp only [Env.at] at hq
    by_cases e : r = q
    · subst e
      simp only [List.getElem?_set] at hq
      simp at hq
    · rw [List.getElem?_set_ne e] at hq
      exact ⟨Ne.symm e, hq⟩
  have hfo : ∀ {q : Nat} {S : Nat → Prop} {items : List (Value × AV)}, (s.frz r k es).L[q]? = some (OB.forest S items) → s.L[q]? = some (OB.forest S items) := fun {q S items} hh => by
    simp only [AS.frz] at hh
    by_cases e : r = q
    · subst e
      simp only [List.getElem?_set] at hh
      simp at hh
    · rw [List.getElem?_set_ne e, List.getElem?_map] at hh
      cases hq : s.L[q]? with
      | none => simp [hq] at hh
      | some o0 =>
        cases o0 <;> simp [hq, OB.frz] at hh
        rw [hh.1, hh.2]
  refine ⟨ρ.at r none, ⟨hr.dfr, by simp [AS.frz, hr.size], fun i v x h1 h2 => ?_, ⟨by simp [Env.at, AS.frz, hr.hr.len], hr.hr.xlt, fun b hb hx => ?_, fun r1 r2 b base base' h1 h2 => ?_, fun q o l h1 h2 => ?_, ⟨hr.hr.t.lt, fun b q base ht h1 => hr.hr.t.dl b q base ht (hget h1).2, fun q S items b h1 => hr.hr.t.sub q S items b (hfo h1), fun q q' S S' items items' b h1 h2 => hr.hr.t.dis q q' S S' items items' b (hfo h1) (hfo h2)⟩⟩⟩, ⟨.refl, fun b _ hb => ?_, fun q hq x hx => ?_, rfl⟩⟩
  · simp only [AS.frz, List.getElem?_map] at h2
    cases hq : s.tm[i]? with
    | none => simp [hq] at h2
    | some y => simp [hq] at h2; subst h2; exact (hr.tm i v y h1 hq).frz hr.hr hL
  · exact hr.hr.disj b (own_none' hb) hx
  · exact hr.hr.inj _ _ _ _ _ (hget h1).2 (hget h2).2
  · by_cases e : r = q
    · subst e
      have hrl : r < s.L.length := (List.getElem?_eq_some_iff.1 hL).1
      simp only [AS.frz] at h1
      rw [List.getElem?_set_self (by simpa using hrl)] at h1
      cases h1
      simp only [Env.at] at h2
      rw [List.getElem?_set_self (by rw [hr.hr.len]; exact hrl)] at h2
      cases h2
      rfl
    · simp only [AS.frz] at h1
      rw [List.getElem?_set_ne e, List.getElem?_map] at h1
      simp only [Env.at] at h2
      rw [List.getElem?_set_ne e] at h2
      cases hq : s.L[q]? with
      | none => simp [hq] at h1
      | some o0 =>
        simp only [hq, Option.map_some, Option.some.injEq] at h1
        subst h1
        have he := hr.hr.ent q o0 l hq h2
        cases o0 with
        | dead => exact he
        | cells cs =>
          obtain ⟨b, c, ty, g1, g2, g3, g4⟩ := he
          refine ⟨b, c, ty, g1, g2, by simpa using g3, fun i v x h5 h6 => ?_⟩
          simp only [List.getElem?_map] at h6
          cases hx : cs[i]? with
          | none => simp [hx] at h6
          | some y => simp only [hx, Option.map_some, Option.some.injEq] at h6; subst h6; exact (g4 i v y h5 hx).frz hr.hr hL
        | vec k' es' =>
          obtain ⟨h0, hl, hd⟩ := he
          refine ⟨h0, hl, ?_⟩
          rcases hd with hd | ⟨b, base', c, ty, g1, g2, g3, g4⟩
          · exact .inl hd
          · exact .inr ⟨b, base', c, ty, g1, g2, g3, fun i j ei x h5 h6 => let ⟨v, h7, h8⟩ := g4 i j ei x h5 h6; ⟨v, h7, h8.mono (fun _ _ _ => rfl) (Nat.le_refl _) (fun b _ hb => hno b hb)⟩⟩
        | forest S items => exact he
  · exact own_none' hb
  · simp only [Env.at]
    rw [List.getElem?_set_ne (show r ≠ q from fun e => hfx (by rw [e]; exact hq))]
    exact hx

/-- A nil slice in a temporary is an own row with nothing in it. -/
theorem wk_nil {s : AS} (t k : Nat) (hk : 0 < k) (ht : s.tm[t]? = some (.val (.slice none 0 0))) : Wk fx s { tm := s.tm.set t (.os s.L.length k 0 0), L := s.L ++ [.vec k []] } := fun ρ a w hr => by
  have hp := hr.push Fr.refl none (fun b base hh => by cases hh) (.vec k []) ⟨hk, by simp, .inl ⟨rfl, rfl⟩⟩
  refine ⟨ρ.push none, ⟨hp.dfr, by have := hp.size; simpa [AS.push] using this, fun i v x h1 h2 => ?_, hp.hr⟩, .push Fr.refl (fun b base hh => by cases hh)⟩
  by_cases hi : t = i
  · subst hi
    have hlt : t < s.tm.length := (List.getElem?_eq_some_iff.1 ht).1
    simp only [] at h2
    rw [List.getElem?_set_self hlt] at h2
    cases h2
    have := val_inv (hr.tm t v _ h1 ht)
    subst this
    exact .osnil _ _ (by rw [← hr.hr.len]; exact push_get _ _)
  · simp only [] at h2
    rw [List.getElem?_set_ne hi] at h2
    exact hp.tm i v x h1 h2

/-! ### What a body returns -/

/-- The result, and the own blocks that stay, told under new names. -/
def Fin (fx : List Nat) (nb : Nat) (R : AV → List OB → Prop) (s : AS) (x : AV) : Prop :=
  ∀ (ρ : Env) (a : Act) (w : World) (v : Value), Rel ρ s a w → VR w ρ v x → ∃ x' L', (R x' L' ∧ nb ≤ L'.length) ∧ ∃ ρ', VR w ρ' v x' ∧ HR w ρ' L' ∧ St fx ρ w ρ' w

def nameK (ks : List Nat) (m j : Nat) : Nat := ks.getD j m

theorem fin_keep {nb : Nat} {R : AV → List OB → Prop} {s : AS} {x : AV} (ks : List Nat) (x' : AV) (L' : List OB) (hR : R x' L') (hnb : nb ≤ L'.length) (hn : ks.Nodup) (hlen : L'.length = ks.length) (hx : x = x'.ren (nameK ks s.L.length))
    (hL : ∀ (j r : Nat) o, ks[j]? = some r → L'[j]? = some o → s.L[r]? = some (o.ren (nameK ks s.L.length))) (hfx : ∀ r ∈ fx, ks[r]? = some r) : Fin fx nb R s x := by
  refine fun ρ a w v hr hv => ⟨x', L', ⟨hR, hnb⟩, ?_⟩
  let ρc : Env := { l := ks.map fun r => ρ.l.getD r none, X := ρ.X, T := ρ.T }
  have hget : ∀ (j r : Nat), ks[j]? = some r → ∃ l, ρ.l[r]? = some l ∧ ρc.l[j]? = some l := fun j r hj => by
    have hj' : j < ks.length := (List.getElem?_eq_some_iff.1 hj).1
    have h0 := hL j r (L'[j]'(by omega)) hj (List.getElem?_eq_getElem _)
    have h1 : r < ρ.l.length := by rw [hr.hr.len]; exact (List.getElem?_eq_some_iff.1 h0).1
    refine ⟨ρ.l[r], List.getElem?_eq_getElem h1, ?_⟩
    simp only [ρc, List.getElem?_map, hj, Option.map_some, List.getD_eq_getElem?_getD, List.getElem?_eq_getElem h1, Option.getD_some]
  have hback : ∀ (j : Nat) l, ρ.l[nameK ks s.L.length j]? = some l → ρc.l[j]? = some l := fun j l hl => by
    by_cases hj : j < ks.length
    · have hj' := List.getElem?_eq_getElem hj
      obtain ⟨l', h1, h2⟩ := hget j _ hj'
      simp only [nameK, List.getD_eq_getElem?_getD, hj', Option.getD_some] at hl
      rw [h1] at hl; cases hl
      exact h2
    · simp only [nameK, List.getD_eq_getElem?_getD, List.getElem?_eq_none (Nat.le_of_not_lt hj), Option.getD_none] at hl
      rw [List.getElem?_eq_none (by rw [hr.hr.len]; exact Nat.le_refl _)] at hl
      cases hl
  have hlc : ∀ {j b base : Nat}, ρc.l[j]? = some (some (b, base)) → ∃ r, ρ.l[r]? = some (some (b, base)) := fun {j b base} hj => by
    simp only [ρc, List.getElem?_map] at hj
    cases hq : ks[j]? with
    | none => simp [hq] at hj
    | some r =>
      obtain ⟨l, h1, h2⟩ := hget j r hq
      have : ρc.l[j]? = some (some (b, base)) := by simp only [ρc, List.getElem?_map]; exact hj
      rw [h2] at this; cases this
      exact ⟨r, h1⟩
  have hown : ∀ b, own ρc b → own ρ b := fun b hb => by
    rcases hb with ⟨j, base, hj⟩ | hb
    · obtain ⟨r, h1⟩ := hlc hj
      exact .l h1
    · exact .inr hb
  have hno : ∀ b, no ρc b → no ρ b := fun b hb => by
    rcases hb with hb | hb
    · exact .inl (hown b hb)
    · exact .inr hb
  refine ⟨ρc, VR.unren _ hback (fun b _ hb => hno b hb) x' v (hx ▸ hv), ⟨by simp [ρc, hlen], hr.hr.xlt, fun b hb => hr.hr.disj b (hown b hb), fun j j' b base base' h1 h2 => ?_, fun j o l h1 h2 => ?_, ⟨hr.hr.t.lt, fun b j base ht hj => ?_, fun j S items b hj hS => ?_, fun j j' S S' items items' b hj hj' hS hS' => ?_⟩⟩, ⟨.refl, fun b _ hb => hown b hb, fun r hrf l hl => ?_, rfl⟩⟩
  · have hlt : ∀ {j b base}, ρc.l[j]? = some (some (b, base)) → j < ks.length := fun {j b base} h => by
      have := (List.getElem?_eq_some_iff.1 h).1
      simpa [ρc] using this
    obtain ⟨l, p1, p2⟩ := hget j _ (List.getElem?_eq_getElem (hlt h1))
    obtain ⟨l', q1, q2⟩ := hget j' _ (List.getElem?_eq_getElem (hlt h2))
    rw [h1] at p2; cases p2
    rw [h2] at q2; cases q2
    have := hr.hr.inj _ _ _ _ _ p1 q1
    exact (List.getElem?_inj (hlt h1) hn).1 (by rw [List.getElem?_eq_getElem (hlt h1), List.getElem?_eq_getElem (hlt h2), this])
  · have hj : j < ks.length := by
      have := (List.getElem?_eq_some_iff.1 h1).1
      omega
    obtain ⟨l', p1, p2⟩ := hget j _ (List.getElem?_eq_getElem hj)
    rw [h2] at p2; cases p2
    exact EntR.unren _ (hr.hr.ent _ _ _ (hL j _ o (List.getElem?_eq_getElem hj) h1) p1) hback (fun b _ hb => hno b hb)
  · obtain ⟨r, h1⟩ := hlc hj
    exact hr.hr.t.dl b r base ht h1
  · have k1 : j < ks.length := by have := (List.getElem?_eq_some_iff.1 hj).1; omega
    exact hr.hr.t.sub _ S items b (hL j _ _ (List.getElem?_eq_getElem k1) hj) hS
  · have k1 : j < ks.length := by have := (List.getElem?_eq_some_iff.1 hj).1; omega
    have k2 : j' < ks.length := by have := (List.getElem?_eq_some_iff.1 hj').1; omega
    have := hr.hr.t.dis _ _ S S' items items' b (hL j _ _ (List.getElem?_eq_getElem k1) hj) (hL j' _ _ (List.getElem?_eq_getElem k2) hj') hS hS'
    exact (List.getElem?_inj k1 hn).1 (by rw [List.getElem?_eq_getElem k1, List.getElem?_eq_getElem k2, this])
  · obtain ⟨l', p1, p2⟩ := hget r r (hfx r hrf)
    rw [hl] at p1; cases p1
    exact p2

theorem fin_wk {nb : Nat} {R : AV → List OB → Prop} {s t : AS} {x : AV} (h : Wk fx s t) (hx : ∀ (ρ ρ' : Env) (a : Act) (w : World) (v : Value), Rel ρ s a w → Rel ρ' t a w → St fx ρ w ρ' w → VR w ρ v x → VR w ρ' v x) (h' : Fin fx nb R t x) : Fin fx nb R s x := by
  refine fun ρ a w v hr hv => ?_
  obtain ⟨ρ1, h1, g1⟩ := h ρ a w hr
  obtain ⟨x', L', hR, ρ2, h2, h3, g2⟩ := h' ρ1 a w v h1 (hx ρ ρ1 a w v hr h1 g1 hv)
  exact ⟨x', L', hR, ρ2, h2, h3, g1.trans g2⟩

/-- An own row that is handed back becomes immutable. -/
theorem fin_frz {nb : Nat} {R : AV → List OB → Prop} {s : AS} {x : AV} {r k : Nat} {es : List (List AV)} (hL : s.L[r]? = some (.vec k es)) (hfx : r ∉ fx) (h' : Fin fx nb R (s.frz r k es) (x.frz r k es)) : Fin fx nb R s x := by
  refine fun ρ a w v hr hv => ?_
  -- the result put into a temporary of its own
  have hr' : Rel ρ { s with tm := s.tm ++ [x] } { a with tmps := a.tmps.push v } w := by
    refine ⟨hr.dfr, by simp [hr.size], fun i u y h1 h2 => ?_, hr.hr⟩
    by_cases hi : i < s.tm.length
    · rw [List.getElem?_append_left hi] at h2
      rw [Array.getElem?_push, if_neg (by rw [hr.size]; omega)] at h1
      exact hr.tm i u y h1 h2
    · rw [List.getElem?_append_right (by omega)] at h2
      rw [Array.getElem?_push] at h1
      split at h1
      · rename_i he
        have e0 : i - s.tm.length = 0 := by rw [he, hr.size]; omega
        rw [e0] at h2
        simp at h1 h2
        subst h1; subst h2
        exact hv
      · rename_i he
        rw [Array.getElem?_eq_none (by rw [hr.size] at he ⊢; omega)] at h1
        cases h1
  obtain ⟨ρ1, h1, g1⟩ := wk_frz (fx := fx) (s := { s with tm := s.tm ++ [x] }) hL hfx ρ _ w hr'
  have h2 : Rel ρ1 (s.frz r k es) a w := by
    refine ⟨h1.dfr, by simpa [AS.frz] using hr.size, fun i u y h3 h4 => ?_, h1.hr⟩
    have hi : i < s.tm.length := by
      have := (List.getElem?_eq_some_iff.1 h4).1
      simpa [AS.frz] using this
    refine h1.tm i u y ?_ ?_
    · show (a.tmps.push v)[i]? = _
      rw [Array.getElem?_push, if_neg (by rw [hr.size]; omega)]; exact h3
    · simp only [AS.frz] at h4 ⊢
      rw [List.map_append, List.getElem?_append_left (by simpa using hi)]
      exact h4
  have hv2 : VR w ρ1 v (x.frz r k es) := by
    refine h1.tm s.tm.length v _ ?_ ?_
    · show (a.tmps.push v)[s.tm.length]? = _
      rw [Array.getElem?_push, if_pos hr.size.symm]
    · simp [AS.frz]
  obtain ⟨x', L', hR, ρ2, h3, h4, g2⟩ := h' ρ1 a w v h2 hv2
  exact ⟨x', L', hR, ρ2, h3, h4, g1.trans g2⟩

/-- A nil slice that is handed back, as an own row with nothing in it. -/
theorem fin_nil {nb : Nat} {R : AV → List OB → Prop} {s : AS} (k : Nat) (hk : 0 < k) (h' : Fin fx nb R (s.push (.vec k [])) (.os s.L.length k 0 0)) : Fin fx nb R s (.val (.slice none 0 0)) := by
  refine fun ρ a w v hr hv => ?_
  have := val_inv hv
  subst this
  have hp := hr.push Fr.refl none (fun b base hh => by cases hh) (.vec k []) ⟨hk, by simp, .inl ⟨rfl, rfl⟩⟩
  obtain ⟨x', L', hR, ρ2, h3, h4, g2⟩ := h' (ρ.push none) a w _ hp (.osnil _ _ (by rw [← hr.hr.len]; exact push_get _ _))
  exact ⟨x', L', hR, ρ2, h3, h4, (St.push Fr.refl (fun b base hh => by cases hh)).trans g2⟩

mutual
/-- Nil slices read as empty ones. -/
def AV.nrm : AV → AV
  | .val (.slice none 0 0) => .sl []
  | .agg l => .agg (nrmL l)
  | .tup l => .tup (nrmL l)
  | x => x
def nrmL : List AV → List AV
  | [] => []
  | x :: l => x.nrm :: nrmL l
end

theorem nrmL_map (l : List AV) : nrmL l = l.map AV.nrm := by
  induction l with
  | nil => simp [nrmL]
  | cons x l ih => simp [nrmL, ih]

theorem VR.nrm {w : World} {ρ : Env} {v : Value} {x : AV} (h : VR w ρ v x) : VR w ρ v x.nrm := by
  induction h with
  | pr h =>
    cases h with
    | val v =>
      unfold AV.nrm
      split
      · rename_i he; cases he; exact .pr (.slnil _ _)
      · rename_i he; cases he
      · rename_i he; cases he
      · exact .pr (.val _)
    | any => simp only [AV.nrm]; exact .pr (.any _)
    | slnil => simp only [AV.nrm]; exact .pr (.slnil _ _)
    | sl => simp only [AV.nrm]; exact .pr (.sl _ _ _ _ _ _ _ ‹_› ‹_› ‹_› ‹_› ‹_› ‹_› ‹_› ‹_› ‹_›)
  | agg c l hs _ ih =>
    simp only [AV.nrm, nrmL_map]
    refine .agg c _ (by simpa using hs) fun i v x hv hx => ?_
    rw [List.getElem?_map] at hx
    cases hl : l[i]? with
    | none => simp [hl] at hx
    | some y => simp [hl] at hx; subst hx; exact ih i v y hv hl
  | tup c l hs _ ih =>
    simp only [AV.nrm, nrmL_map]
    refine .tup c _ (by simpa using hs) fun i v x hv hx => ?_
    rw [List.getElem?_map] at hx
    cases hl : l[i]? with
    | none => simp [hl] at hx
    | some y => simp [hl] at hx; subst hx; exact ih i v y hv hl
  | ip b o cs cv ho' hlt hcell hread => simp only [AV.nrm]; exact .ip b o cs cv ho' hlt hcell hread
  | ptr r off b base hr => simp only [AV.nrm]; exact .ptr r off b base hr
  | vp r k i off b base hr => simp only [AV.nrm]; exact .vp r k i off b base hr
  | osnil r k hr => simp only [AV.nrm]; exact .osnil r k hr
  | osz r k off a b base hr => simp only [AV.nrm]; exact .osz r k off a b base hr
  | os r k off n c b base cs e fz hr hc hb hsz => simp only [AV.nrm]; exact .os r k off n c b base cs e fz hr hc hb hsz
  | fn f c l hs h _ => simp only [AV.nrm]; exact .fn f c l hs h

theorem fin_nrm {nb : Nat} {R : AV → List OB → Prop} {s : AS} {x : AV} (h' : Fin fx nb R s x.nrm) : Fin fx nb R s x := by
  exact fun ρ a w v hr hv => h' ρ a w v hr hv.nrm

/-- The results' variables, read. -/
def rvs (T : TypeId → Ty) (s : AS) : List ResultVar → (List AV → Prop) → Prop
  | [], K => K []
  | .tmp t :: l, K => rvs T s l (fun xs => K (s.tm.getD t .any :: xs))
  | .cell a t :: l, K => qLoad T t s (s.tm.getD a .any) (fun r => rvs T s l (fun xs => K (r :: xs)))

def resOf : List AV → AV
  | [x] => x
  | xs => .tup xs

def readRV (tmps : Array Value) : ResultVar → Sem Value
  | .tmp t => pure (tmps.getD t undef)
  | .cell a t => do loadVar t (← asAddr (tmps.getD a undef))

theorem results_eq (fn : Func) (tmps : Array Value) : results fn tmps = (do
    let vs ← fn.results.mapM (readRV tmps)
    pure (if h : vs.size = 1 then vs[0] else .tuple vs)) := by
  have : (fun rv : ResultVar => match rv with | .tmp t => (pure (tmps.getD t undef) : Sem Value) | .cell a t => do loadVar t (← asAddr (tmps.getD a undef))) = readRV tmps := by
    funext rv; cases rv <;> rfl
  rw [← this]
  rfl

theorem rvs_sound (hT : TTOk P T) {s : AS} {ρ : Env} {a : Act} {w : World} (hr : Rel ρ s a w) : ∀ (l : List ResultVar) (K : List AV → Prop), rvs T s l K → ∃ xs vs, K xs ∧
    (l.mapM (readRV a.tmps)).run P w = .ok vs w ∧ vs.length = xs.length ∧ ∀ (i : Nat) v x, vs[i]? = some v → xs[i]? = some x → VR w ρ v x
  | [], K, h => ⟨[], [], h, rfl, rfl, by simp⟩
  | .tmp t :: l, K, h => by
    obtain ⟨xs, vs, h1, h2, h3, h4⟩ := rvs_sound hT hr l _ h
    refine ⟨_, a.tmps.getD t undef :: vs, h1, by simp only [List.mapM_cons, readRV, Sem.run_bind, Sem.run_pure, Result.andThen_ok, h2], by simp [h3], fun i v x hv hx => ?_⟩
    cases i with
    | zero =>
      simp only [List.getElem?_cons_zero, Option.some.injEq] at hv hx
      subst hv; subst hx
      exact hr.ev (.tmp t)
    | succ i => exact h4 i v x (by simpa using hv) (by simpa using hx)
  | .cell b t :: l, K, h => by
    obtain ⟨r, hr1, hh⟩ := qLoad_sound hT h
    obtain ⟨xs, vs, h1, h2, h3, h4⟩ := rvs_sound hT hr l _ hr1
    have hv := hr.ev (.tmp b)
    obtain ⟨u, g1, g2⟩ := hh ρ w (a.eval (.tmp b)) hr.hr hv
    have hload : (readRV a.tmps (.cell b t)).run P w = .ok u w := by
      have : a.eval (.tmp b) = a.tmps.getD b undef := rfl
      rw [this] at g1
      generalize hvb : a.tmps.getD b undef = vb at g1
      unfold Instr.loadAt Instr.sureAddr at g1
      cases vb <;> try (simp at g1; done)
      rename_i ad
      cases ad with
      | none => simp at g1
      | some ad => simpa [readRV, hvb, asAddr] using g1
    refine ⟨_, u :: vs, h1, by rw [List.mapM_cons, Sem.run_bind, hload]; simp only [Result.andThen_ok, Sem.run_bind, h2, Sem.run_pure], by simp [h3], fun i v x hv hx => ?_⟩
    cases i with
    | zero => simp at hv hx; subst hv; subst hx; exact g2
    | succ i => exact h4 i v x (by simpa using hv) (by simpa using hx)

/-- What is asked of a body's end. -/
def Ret (T : TypeId → Ty) (fx : List Nat) (rv : List ResultVar) (nb : Nat) (R : AV → List OB → Prop) (e : Exit) (s : AS) : Prop :=
  match e with
  | .normal => rvs T s rv (fun xs => Fin fx nb R s (resOf xs))
  | .ret => rvs T s rv (fun xs => Fin fx nb R s (resOf xs))
  | .exit _ => False
  | .goto _ => False
  | .panic _ => False
  | .outgrown => False

theorem acalls_intro (hT : TTOk P T) {f : FuncId} {fn : Func} {c : Code} {args : List AV} {L0 : List OB} {R : AV → List OB → Prop} (hf : P.funcs[f]? = some fn) (hb : fn.body = some c) (he : Enters P f) (n : Nat) (hn : fn.ntmps - args.length = n) {rv : List ResultVar} (hrv : fn.results = rv.toArray)
    (h : awp P fx c (Ret T fx rv L0.length R) ⟨args ++ List.replicate n .any, L0⟩) : ACalls P f args L0 fx R := by
  refine ⟨he, fun ρ w vs hhr hvl hv => calls_of_wp hf hb ?_⟩
  have hr : Rel ρ ⟨args ++ List.replicate n .any, L0⟩ { tmps := vs ++ Array.replicate (fn.ntmps - vs.size) undef, defers := [] } w := by
    refine ⟨rfl, by simp [hvl, hn], fun i v x h1 h2 => ?_, hhr⟩
    by_cases hi : i < args.length
    · simp only [] at h1 h2
      rw [List.getElem?_append_left hi] at h2
      rw [Array.getElem?_append_left (by omega)] at h1
      exact hv i v x h1 h2
    · simp only [] at h2
      rw [List.getElem?_append_right (by omega), List.getElem?_replicate] at h2
      split at h2
      · cases h2; exact .pr (.any _)
      · cases h2
  refine wp_mono (h ρ _ w hr) fun e a' w' ⟨s', ρ', h1, h2, h3⟩ => ?_
  have fin : rvs T s' rv (fun xs => Fin fx L0.length R s' (resOf xs)) → a'.defers = [] ∧ ∃ v, (results fn a'.tmps).run P w' = .ok v w' ∧ ∃ v' res L' ρ'', Ending.returned v = .returned v' ∧ R res L' ∧ L0.length ≤ L'.length ∧ VR w' ρ'' v' res ∧ HR w' ρ'' L' ∧ St fx ρ w ρ'' w' := fun hh => by
    obtain ⟨xs, us, g1, g2, g3, g4⟩ := rvs_sound hT h2 rv _ hh
    have hres : ∃ v, (results fn a'.tmps).run P w' = .ok v w' ∧ VR w' ρ' v (resOf xs) := by
      refine ⟨if h : us.toArray.size = 1 then us.toArray[0] else .tuple us.toArray, ?_, ?_⟩
      · rw [results_eq, hrv]
        simp only [Sem.run_bind, List.mapM_toArray, Sem.run_map, g2, Result.andThen_ok, Sem.run_pure]
      · by_cases h1 : us.length = 1
        · rw [dif_pos (by simpa using h1)]
          obtain ⟨u, rfl⟩ := List.length_eq_one_iff.1 h1
          obtain ⟨x, rfl⟩ := List.length_eq_one_iff.1 (g3.symm.trans h1)
          exact g4 0 u x rfl rfl
        · rw [dif_neg (by simpa using h1)]
          have : resOf xs = .tup xs := by
            unfold resOf
            split
            · rename_i x; simp at g3; exact absurd g3 h1
            · rfl
          rw [this]
          exact .tup _ _ (by simp [g3]) fun i v x hv hx => g4 i v x (by simpa using hv) hx
    obtain ⟨v, hv1, hv2⟩ := hres
    obtain ⟨x', L', ⟨q1, q2⟩, ρ'', p1, p2, p3⟩ := g1 ρ' a' w' v h2 hv2
    exact ⟨h2.dfr, v, hv1, v, x', L', ρ'', rfl, q1, q2, p1, p2, h3.trans p3⟩
  cases e <;> first | exact fin h1 | exact h1.elim

/-! ### Quiet calls out of contracts -/

mutual
def AV.free : AV → Bool
  | .any => true
  | .val _ => true
  | .agg l => freeL l
  | .tup l => freeL l
  | .sl _ => true
  | .ip _ => true
  | .ptr _ _ => false
  | .vp _ _ _ _ => false
  | .os _ _ _ _ => false
  | .fn _ l => freeL l
def freeL : List AV → Bool
  | [] => true
  | x :: l => x.free && freeL l
end

mutual
theorem AV.free_ren (σ : Nat → Nat) : ∀ (x : AV), x.free = true → x.ren σ = x
  | .any, _ | .val _, _ | .sl _, _ | .ip _, _ => by simp [AV.ren]
  | .ptr r _, h | .vp r _ _ _, h | .os r _ _ _, h => by simp [AV.free] at h
  | .agg l, h | .tup l, h | .fn _ l, h => by simp only [AV.free] at h; simp only [AV.ren, freeL_ren σ l h]
theorem freeL_ren (σ : Nat → Nat) : ∀ (l : List AV), freeL l = true → renL σ l = l
  | [], _ => rfl
  | x :: l, h => by
    simp only [freeL, Bool.and_eq_true] at h
    simp only [renL, AV.free_ren σ x h.1, freeL_ren σ l h.2]
end

theorem freeL_mem {l : List AV} {x : AV} (h : freeL l = true) (hx : x ∈ l) : x.free = true := by
  induction l with
  | nil => cases hx
  | cons y l ih =>
    simp only [freeL, Bool.and_eq_true] at h
    rcases List.mem_cons.1 hx with rfl | hx
    · exact h.1
    · exact ih h.2 hx

theorem qcall_of {f : FuncId} {caps args : List AV} {r : AV} (h : ACalls P f (args ++ caps) [] [] (fun res L' => res = r ∧ L' = [])) (hfree : freeL (args ++ caps) = true) : QCall P (.fn f caps) args r := by
  intro ρ w L vf vs hr hvf hvl hv
  obtain ⟨hent, hcalls⟩ := h
  cases hvf with
  | pr hp => cases hp
  | fn f cv _ hs hc =>
  simp only [Deferred.ofValue, Sem.run_bind, Sem.run_pure, Result.andThen_ok, invoke, Array.empty_append]
  rw [hent]
  simp only [Out]
  let ρc : Env := { l := [], X := no ρ }
  have hnone : ∀ b, ¬ own ρc b := fun b hb => by
    rcases hb with ⟨j, base, hj⟩ | hb
    · simp [ρc] at hj
    · cases hb
  have hnoc : ∀ b, no ρc b → no ρ b := fun b hb => by
    rcases hb with (⟨j, base, hj⟩ | hb) | hb
    · simp [ρc] at hj
    · cases hb
    · exact hb
  refine (hcalls ρc w (vs ++ cv) ⟨rfl, fun b hb => ?_, fun b hb => (hnone b hb).elim, fun j j' b base base' h1 => by simp [ρc] at h1, fun j o l h1 => by simp at h1, ⟨fun b hb => (False.elim hb), fun b j base hb => (False.elim hb), fun j S items b h1 => by simp at h1, fun j j' S S' items items' b h1 => by simp at h1⟩⟩ (by simp; omega) fun i v x h1 h2 => ?_).mono fun e w' ⟨v, res, L', ρ', he, ⟨hR, hL⟩, _, hvr, hhr, hst⟩ => ?_
  · rcases hb with hb | hb
    · exact own_lt hr hb
    · exact hr.xlt b hb
  · have hxf := freeL_mem hfree (List.mem_of_getElem? h2)
    have hvx : VR w ρ v x := by
      by_cases hi : i < vs.size
      · rw [Array.getElem?_append_left hi] at h1
        rw [List.getElem?_append_left (by omega)] at h2
        exact hv i v x h1 h2
      · rw [Array.getElem?_append_right (by omega)] at h1
        rw [List.getElem?_append_right (by omega)] at h2
        rw [← hvl] at h2
        exact hc _ v x h1 h2
    refine VR.unren (ρ := ρ) (fun j => ρ.l.length + j) (fun j l hl => ?_) (fun b _ hb => hnoc b hb) x v (by rw [AV.free_ren _ x hxf]; exact hvx)
    rw [List.getElem?_eq_none (by omega)] at hl
    cases hl
  · subst hR; subst hL
    have hl0 : ρ'.l = [] := List.length_eq_zero_iff.1 (by rw [hhr.len]; rfl)
    have hX : ρ'.X = no ρ := hst.x
    refine ⟨v, he, ?_, ⟨hst.fr.le, fun b hb _ => hst.fr.same b hb (hnone b), hst.fr.size, hst.fr.os, hst.fr.out, hst.fr.tape⟩⟩
    have := hvr.mono (w' := w') (ρ' := ρ) .refl (fun b _ hb => .inr (by rw [hX]; exact hb)) (fun _ => true) (fun j l _ hl => by rw [hl0] at hl; simp at hl)
    rwa [AV.filt_true] at this

/-- A result without own blocks, nothing else kept. -/
theorem fin_free {R : AV → List OB → Prop} {s : AS} {x : AV} (hx : x.free = true) (hR : R x []) : Fin [] 0 R s x :=
  fin_keep [] x [] hR (Nat.zero_le _) List.nodup_nil rfl (by rw [AV.free_ren _ x hx]) (fun j r o h => by simp at h) (fun r h => by cases h)

theorem acalls_in (hT : TTOk P T) {f : FuncId} {fn : Func} {c : Code} {args : List AV} {L0 : List OB} {R : AV → List OB → Prop} (hf : P.funcs[f]? = some fn) (hb : fn.body = some c) (he : Enters P f) (l : List AV) (hn : fn.ntmps - args.length = l.length) (hl : List.replicate l.length .any = l) {rv : List ResultVar} (hrv : fn.results = rv.toArray)
    (h : awp P fx c (Ret T fx rv L0.length R) ⟨args ++ l, L0⟩) : ACalls P f args L0 fx R :=
  acalls_intro hT hf hb he l.length hn hrv (by rw [hl]; exact h)

end
end Go.Pc
