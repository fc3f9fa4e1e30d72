/- Calls, blocks and loops in worlds of a kind: the rules of XAlx once more. Printed by gen_kcall.py. -/
import Derived.Test.YtajkeegikligcaaDoorCpd
set_option linter.unusedSimpArgs false
set_option linter.unusedVariables false
namespace Go.Pc
open Go Go.Proofs

/-- A fact that holds where less is own, too. -/
def Shrinks (KK : Env → World → Prop) : Prop := ∀ (ρ ρ' : Env) (w : World), KK ρ w → (∀ b, own ρ' b → own ρ b) → KK ρ' w
/-- A contract in worlds of a kind. -/
def ACallsK (P : Program) (KK : Env → World → Prop) (f : FuncId) (args : List AV) (L0 : List OB) (fx : List Nat) (R : AV → List OB → Prop) : Prop :=
  Enters P f ∧ ∀ (ρ : Env) (w : World) (vs : Array Value), KK ρ w → HR w ρ L0 → vs.size = args.length → (∀ (i : Nat) v x, vs[i]? = some v → args[i]? = some x → VR w ρ v x) →
    Calls P f vs w (fun e w' => ∃ v res L' ρ', e = .returned v ∧ R res L' ∧ L0.length ≤ L'.length ∧ VR w' ρ' v res ∧ HR w' ρ' L' ∧ St fx ρ w ρ' w')

section
variable {P : Program} {T : TypeId → Ty} {fx bl : List Nat}

/-- THE RULE FOR A CALL. -/
theorem kcall {KK : Env → World → Prop} (hKs : Shrinks KK) {fx : List Nat} {f : FuncId} {caps args argsC : List AV} {L0 : List OB} {fxc : List Nat} {R : AV → List OB → Prop} (h : ACallsK P KK f args L0 fxc R) (s : AS) (rs : List Nat) (hn : rs.Nodup) (hlen : rs.length = L0.length)
    (hL : ∀ (j r : Nat) o, rs[j]? = some r → L0[j]? = some o → s.L[r]? = some (o.ren (nameIn rs s.L.length))) (hfx : ∀ j r : Nat, rs[j]? = some r → r ∈ fx → j ∈ fxc)
    (hargs : argsC ++ caps = args.map (AV.ren (nameIn rs s.L.length))) {K : AV → AS → Prop} (hK : ∀ res L', R res L' → L0.length ≤ L'.length → K (res.ren (nameIn rs s.L.length)) (s.back rs fxc L')) :
    KCall P fx KK (.fn f caps) argsC s K := by
  intro ρ a w vf vs hr hkk hvf hvl hv
  obtain ⟨hent, hcalls⟩ := h
  cases hvf with
  | pr hp => cases hp
  | fn f cv _ hs hc =>
  simp only [Deferred.ofValue, Sem.run_bind, Sem.run_pure, Result.andThen_ok, invoke, Array.empty_append]
  rw [hent]
  simp only [Out]
  have hrlt : ∀ (j r : Nat), rs[j]? = some r → r < s.L.length := fun j r hj => by
    have hj' : j < rs.length := (List.getElem?_eq_some_iff.1 hj).1
    have := hL j r (L0[j]'(by omega)) hj (List.getElem?_eq_getElem _)
    exact (List.getElem?_eq_some_iff.1 this).1
  have hρl : ρ.l.length = s.L.length := hr.hr.len
  let lc : List (Option (Nat × Nat)) := rs.map fun r => ρ.l.getD r none
  let Tc : Nat → Prop := fun b => ∃ (j r : Nat) (S : Nat → Prop) (items : List (Value × AV)), rs[j]? = some r ∧ s.L[r]? = some (.forest S items) ∧ S b
  let ρc : Env := { l := lc, X := fun b => no ρ b ∧ ¬ ((∃ (r base : Nat), lc[r]? = some (some (b, base))) ∨ Tc b), T := Tc }
  have hTc : ∀ b, Tc b → ρ.T b := fun b ⟨_, r, S, items, _, h2, h3⟩ => hr.hr.t.sub r S items b h2 h3
  have hget : ∀ (j r : Nat), rs[j]? = some r → ∃ l, ρ.l[r]? = some l ∧ ρc.l[j]? = some l := fun j r hj => by
    have h1 : r < ρ.l.length := by rw [hρl]; exact hrlt j r hj
    refine ⟨ρ.l[r], List.getElem?_eq_getElem h1, ?_⟩
    simp only [ρc, lc, List.getElem?_map, hj, Option.map_some, List.getD_eq_getElem?_getD, List.getElem?_eq_getElem h1, Option.getD_some]
  have hnamelt : ∀ j, rs.length ≤ j → s.L.length ≤ nameIn rs s.L.length j := fun j hj => by
    simp only [nameIn, List.getD_eq_getElem?_getD, List.getElem?_eq_none hj, Option.getD_none]; omega
  have hnamein : ∀ (j r : Nat), rs[j]? = some r → nameIn rs s.L.length j = r := fun j r hj => by
    simp only [nameIn, List.getD_eq_getElem?_getD, hj, Option.getD_some]
  have hback : ∀ (j : Nat) l, ρ.l[nameIn rs s.L.length j]? = some l → ρc.l[j]? = some l := fun j l hl => by
    by_cases hj : j < rs.length
    · have hj' := List.getElem?_eq_getElem hj
      obtain ⟨l', h1, h2⟩ := hget j _ hj'
      rw [hnamein j _ hj', h1] at hl
      cases hl
      exact h2
    · have := hnamelt j (by omega)
      rw [List.getElem?_eq_none (by omega)] at hl
      cases hl
  have hlc : ∀ {j b base : Nat}, lc[j]? = some (some (b, base)) → ∃ r, rs[j]? = some r ∧ ρ.l[r]? = some (some (b, base)) := fun {j b base} hj => by
    simp only [lc, List.getElem?_map] at hj
    cases hq : rs[j]? with
    | none => simp [hq] at hj
    | some r =>
      obtain ⟨l, h1, h2⟩ := hget j r hq
      have : ρc.l[j]? = some (some (b, base)) := by simp only [ρc, lc, List.getElem?_map]; exact hj
      rw [h2] at this
      cases this
      exact ⟨r, rfl, h1⟩
  have hownc : ∀ b, own ρc b → own ρ b := fun b hb => by
    rcases hb with ⟨j, base, hj⟩ | hb
    · obtain ⟨r, _, h1⟩ := hlc hj
      exact .l h1
    · exact .inr (hTc b hb)
  have hnoc : ∀ b, no ρc b → no ρ b := fun b hb => by
    rcases hb with hb | hb
    · exact .inl (hownc b hb)
    · exact hb.1
  have hHR : HR w ρc L0 := by
    refine ⟨by simp [ρc, lc, hlen], fun b hb => ?_, fun b hb hx => hx.2 hb, fun j j' b base base' h1 h2 => ?_, fun j o l h1 h2 => ?_, ⟨fun b hb => hr.hr.t.lt b (hTc b hb), fun b j base hb hj => ?_, fun j S items b hj hS => ?_, fun j j' S S' items items' b hj hj' hS hS' => ?_⟩⟩
    · rcases hb.1 with hb | hb
      · exact own_lt hr.hr hb
      · exact hr.hr.xlt b hb
    · have hj : j < rs.length := by
        rcases Nat.lt_or_ge j rs.length with h' | h'
        · exact h'
        · rw [List.getElem?_eq_none (by simpa [ρc, lc] using h')] at h1; cases h1
      have hj' : j' < rs.length := by
        rcases Nat.lt_or_ge j' rs.length with h' | h'
        · exact h'
        · rw [List.getElem?_eq_none (by simpa [ρc, lc] using h')] at h2; cases h2
      obtain ⟨l, p1, p2⟩ := hget j _ (List.getElem?_eq_getElem hj)
      obtain ⟨l', q1, q2⟩ := hget j' _ (List.getElem?_eq_getElem hj')
      rw [h1] at p2; cases p2
      rw [h2] at q2; cases q2
      have := hr.hr.inj _ _ _ _ _ p1 q1
      exact (List.getElem?_inj hj hn).1 (by rw [List.getElem?_eq_getElem hj, List.getElem?_eq_getElem hj', this])
    · have hj : j < rs.length := by
        rcases Nat.lt_or_ge j rs.length with h' | h'
        · exact h'
        · rw [List.getElem?_eq_none (by omega)] at h1; cases h1
      obtain ⟨l', p1, p2⟩ := hget j _ (List.getElem?_eq_getElem hj)
      rw [h2] at p2; cases p2
      exact EntR.unren (nameIn rs s.L.length) (hr.hr.ent _ _ _ (hL j _ o (List.getElem?_eq_getElem hj) h1) p1) hback (fun b _ hb => hnoc b hb)
    · obtain ⟨r, _, h1⟩ := hlc hj
      exact hr.hr.t.dl b r base (hTc b hb) h1
    · have hj' : j < rs.length := by have := (List.getElem?_eq_some_iff.1 hj).1; omega
      exact ⟨j, _, S, items, List.getElem?_eq_getElem hj', hL j _ _ (List.getElem?_eq_getElem hj') hj, hS⟩
    · have k1 : j < rs.length := by have := (List.getElem?_eq_some_iff.1 hj).1; omega
      have k2 : j' < rs.length := by have := (List.getElem?_eq_some_iff.1 hj').1; omega
      have := hr.hr.t.dis _ _ S S' items items' b (hL j _ _ (List.getElem?_eq_getElem k1) hj) (hL j' _ _ (List.getElem?_eq_getElem k2) hj') hS hS'
      exact (List.getElem?_inj k1 hn).1 (by rw [List.getElem?_eq_getElem k1, List.getElem?_eq_getElem k2, this])
  have hargl : argsC.length + caps.length = args.length := by
    have := congrArg List.length hargs
    simpa using this
  refine (hcalls ρc w (vs ++ cv) (hKs _ _ _ hkk hownc) hHR (by simp; omega) fun i v x h1 h2 => ?_).mono fun e w' ⟨v, res, L', ρ', he, hR, hle, hvr, hhr, hst⟩ => ?_
  · have h3 : (argsC ++ caps)[i]? = some (x.ren (nameIn rs s.L.length)) := by rw [hargs, List.getElem?_map, h2]; rfl
    refine VR.unren _ hback (fun b _ hb => hnoc b hb) x v ?_
    by_cases hi : i < vs.size
    · rw [Array.getElem?_append_left hi] at h1
      rw [List.getElem?_append_left (by omega)] at h3
      exact hv i v _ h1 h3
    · rw [Array.getElem?_append_right (by omega)] at h1
      rw [List.getElem?_append_right (by omega)] at h3
      rw [← hvl] at h3
      exact hc _ v _ h1 h3
  · -- behind the call
    refine ⟨v, he, res.ren (nameIn rs s.L.length), s.back rs fxc L', { l := setLocs ρ.l rs ρ'.l ++ ρ'.l.drop rs.length, X := ρ.X, T := fun b => (ρ.T b ∧ ¬ Tc b) ∨ ρ'.T b }, hK res L' hR hle, ?_⟩
    generalize hρn : ({ l := setLocs ρ.l rs ρ'.l ++ ρ'.l.drop rs.length, X := ρ.X, T := fun b => (ρ.T b ∧ ¬ Tc b) ∨ ρ'.T b } : Env) = ρn
    have nT : ∀ b, ρn.T b ↔ ((ρ.T b ∧ ¬ Tc b) ∨ ρ'.T b) := fun b => by rw [← hρn]
    have hrl' : rs.length ≤ ρ'.l.length := by rw [hhr.len]; omega
    have hX : ∀ b, ρ'.X b ↔ no ρ b ∧ ¬ own ρc b := fun b => by rw [hst.x]; exact Iff.rfl
    have nl : ρn.l = setLocs ρ.l rs ρ'.l ++ ρ'.l.drop rs.length := by rw [← hρn]
    have nX : ρn.X = ρ.X := by rw [← hρn]
    have nin : ∀ (j r : Nat), rs[j]? = some r → ρn.l[r]? = ρ'.l[j]? := fun j r hj => by
      have h1 : r < ρ.l.length := by rw [hρl]; exact hrlt j r hj
      rw [nl, List.getElem?_append_left (by rw [setLocs_len]; exact h1), setLocs_in rs _ _ j r hn hj h1 hrl']
    have nout : ∀ r, r ∉ rs → r < ρ.l.length → ρn.l[r]? = ρ.l[r]? := fun r hr' h1 => by
      rw [nl, List.getElem?_append_left (by rw [setLocs_len]; exact h1), setLocs_out rs _ _ r hr']
    have nnew : ∀ r, ρ.l.length ≤ r → ρn.l[r]? = ρ'.l[rs.length + (r - ρ.l.length)]? := fun r h1 => by
      rw [nl, List.getElem?_append_right (by rw [setLocs_len]; exact h1), setLocs_len, List.getElem?_drop]
    have nname : ∀ (j : Nat) l, ρ'.l[j]? = some l → ρn.l[nameIn rs s.L.length j]? = some l := fun j l hl => by
      by_cases hj : j < rs.length
      · have hj' := List.getElem?_eq_getElem hj
        rw [hnamein j _ hj', nin j _ hj', hl]
      · have h1 : nameIn rs s.L.length j = s.L.length + (j - rs.length) := by
          simp only [nameIn, List.getD_eq_getElem?_getD, List.getElem?_eq_none (Nat.le_of_not_lt hj), Option.getD_none]
        rw [h1, nnew _ (by omega), ← hl]
        congr 1; omega
    -- where the new own blocks come from
    have nowns : ∀ r b base, ρn.l[r]? = some (some (b, base)) → (r ∉ rs ∧ ρ.l[r]? = some (some (b, base))) ∨ ∃ j, ρ'.l[j]? = some (some (b, base)) ∧ r = nameIn rs s.L.length j := fun r b base hb => by
      by_cases h1 : r < ρ.l.length
      · by_cases h2 : r ∈ rs
        · obtain ⟨j, hj, hjr⟩ := List.mem_iff_getElem.1 h2
          have hj' : rs[j]? = some r := by rw [List.getElem?_eq_getElem hj, hjr]
          rw [nin j r hj'] at hb
          exact .inr ⟨j, hb, (hnamein j r hj').symm⟩
        · rw [nout r h2 h1] at hb
          exact .inl ⟨h2, hb⟩
      · rw [nnew r (by omega)] at hb
        refine .inr ⟨_, hb, ?_⟩
        have h2 : ¬ (rs.length + (r - ρ.l.length) < rs.length) := by omega
        simp only [nameIn, List.getD_eq_getElem?_getD, List.getElem?_eq_none (Nat.le_of_not_lt h2), Option.getD_none]
        omega
    have lnot : ∀ {r b base : Nat}, r ∉ rs → ρ.l[r]? = some (some (b, base)) → ¬ own ρc b := fun {r b base} ho h hc => by
      rcases hc with ⟨j, base2, hj⟩ | hc
      · obtain ⟨q, hq, q1⟩ := hlc hj
        exact absurd (List.mem_of_getElem? hq) (hr.hr.inj _ _ _ _ _ h q1 ▸ ho)
      · exact hr.hr.t.dl b r base (hTc b hc) h
    have tnot : ∀ {b : Nat}, ρ.T b → ¬ Tc b → ¬ own ρc b := fun {b} ht hnt hc => by
      rcases hc with ⟨j, base2, hj⟩ | hc
      · obtain ⟨q, _, q1⟩ := hlc hj
        exact hr.hr.t.dl b q base2 ht q1
      · exact hnt hc
    have fnot : ∀ {r b : Nat} {S : Nat → Prop} {items : List (Value × AV)}, r ∉ rs → s.L[r]? = some (.forest S items) → S b → ¬ Tc b := fun {r b S items} ho h hS hc => by
      obtain ⟨j, q, S', items', h1, h2, h3⟩ := hc
      have := hr.hr.t.dis _ _ _ _ _ _ b h h2 hS h3
      exact ho (this ▸ List.mem_of_getElem? h1)
    have nno : ∀ b, no ρn b → no ρ' b := fun b hb => by
      rcases hb with (⟨r, base, hb⟩ | hb) | hb
      · rcases nowns r b base hb with ⟨ho, h⟩ | ⟨j, h, _⟩
        · exact .inr ((hX b).2 ⟨.inl (.l h), lnot ho h⟩)
        · exact .inl (.l h)
      · rcases (nT b).1 hb with ⟨h1, h2⟩ | h1
        · exact .inr ((hX b).2 ⟨.inl (.inr h1), tnot h1 h2⟩)
        · exact .inl (.inr h1)
      · exact .inr ((hX b).2 ⟨.inr (nX ▸ hb), fun hc => hr.hr.disj b (hownc b hc) (nX ▸ hb)⟩)
    have nsub : ∀ b, b < w.heap.size → own ρn b → own ρ b := fun b hlt hb => by
      rcases hb with ⟨r, base, hb⟩ | hb
      · rcases nowns r b base hb with ⟨_, h⟩ | ⟨j, h, _⟩
        · exact .l h
        · exact hownc b (hst.sub b hlt (.l h))
      · rcases (nT b).1 hb with ⟨h1, _⟩ | h1
        · exact .inr h1
        · exact hownc b (hst.sub b hlt (.inr h1))
    have nfor : ∀ {r : Nat} {S : Nat → Prop} {items : List (Value × AV)}, (s.back rs fxc L').L[r]? = some (.forest S items) → (r ∉ rs ∧ s.L[r]? = some (.forest S items)) ∨ ∃ j : Nat, L'[j]? = some (.forest S items) ∧ r = nameIn rs s.L.length j := fun {r S items} h1 => by
      simp only [AS.back] at h1
      by_cases hrl : r < ρ.l.length
      · rw [List.getElem?_append_left (by rw [setAll_len]; simp; omega)] at h1
        by_cases hin : r ∈ rs
        · obtain ⟨j, hj, hjr⟩ := List.mem_iff_getElem.1 hin
          have hj' : rs[j]? = some r := by rw [List.getElem?_eq_getElem hj, hjr]
          rw [setAll_in rs _ _ j r hn hj' (by simp; omega) (by simp; omega), List.getElem?_map] at h1
          cases hq : L'[j]? with
          | none => simp [hq] at h1
          | some o' =>
            cases o' <;> simp [hq, OB.ren] at h1
            exact .inr ⟨j, by rw [hq, h1.1, h1.2], (hnamein j r hj').symm⟩
        · rw [setAll_out rs _ _ r hin, List.getElem?_map] at h1
          cases hq : s.L[r]? with
          | none => simp [hq] at h1
          | some o0 =>
            cases o0 <;> simp [hq, OB.filt] at h1
            exact .inl ⟨hin, by rw [h1.1, h1.2]⟩
      · rw [List.getElem?_append_right (by rw [setAll_len]; simp; omega), setAll_len] at h1
        simp only [List.length_map, List.getElem?_map, List.getElem?_drop] at h1
        cases hq : L'[rs.length + (r - s.L.length)]? with
        | none => simp [hq] at h1
        | some o' =>
          cases o' <;> simp [hq, OB.ren] at h1
          refine .inr ⟨_, by rw [hq, h1.1, h1.2], ?_⟩
          have h2 : ¬ (rs.length + (r - s.L.length) < rs.length) := by omega
          simp only [nameIn, List.getD_eq_getElem?_getD, List.getElem?_eq_none (Nat.le_of_not_lt h2), Option.getD_none]
          omega
    have nnoρ : ∀ b, b < w.heap.size → no ρn b → no ρ b := fun b hlt hb => by
      rcases hb with hb | hb
      · exact .inl (nsub b hlt hb)
      · exact .inr (nX ▸ hb)
    have hfr : Fr (own ρ) w w' := ⟨hst.fr.le, fun b hb hno => hst.fr.same b hb fun h => hno (hownc b h), hst.fr.size, hst.fr.os, hst.fr.out, hst.fr.tape⟩
    have hstay : ∀ (r : Nat) l, (!(movedBy rs fxc).contains r) = true → ρ.l[r]? = some l → ρn.l[r]? = some l := fun r l hp hl => by
      have hrl : r < ρ.l.length := (List.getElem?_eq_some_iff.1 hl).1
      by_cases h2 : r ∈ rs
      · obtain ⟨j, hj, hjr⟩ := List.mem_iff_getElem.1 h2
        have hj' : rs[j]? = some r := by rw [List.getElem?_eq_getElem hj, hjr]
        have hjf : j ∈ fxc := by
          have : r ∉ movedBy rs fxc := by simpa using hp
          exact Classical.byContradiction fun hc => this ((mem_moved hn hj').2 hc)
        obtain ⟨l', p1, p2⟩ := hget j r hj'
        rw [hl] at p1; cases p1
        rw [nin j r hj']
        exact hst.fix j hjf _ p2
      · rw [nout r h2 hrl]; exact hl
    have keepF : ∀ v x, VR w ρ v x → VR w' ρn v (x.filt fun r => !(movedBy rs fxc).contains r) := fun v x hv => hv.mono hfr nnoρ _ hstay
    have keepP : ∀ v x, PR w (no ρ) v x → PR w' (no ρn) v x := fun v x hv => hv.mono (fun b hb hno => hfr.same b hb fun h => hno (.inl h)) hfr.le nnoρ
    refine ⟨⟨hr.dfr, by simp [AS.back, hr.size], fun i v x h1 h2 => ?_, ⟨?_, ?_, ?_, ?_, ?_, ⟨fun b hb => ?_, fun b r base ht hl => ?_, fun r S items b hrL hS => ?_, fun r r' S S' items items' b h1 h2 hS hS' => ?_⟩⟩⟩, hvr.ren _ nname (fun b _ hb => nno b hb), ⟨hfr, nsub, fun r hrf l hl => ?_, nX⟩⟩
    · simp only [AS.back, List.getElem?_map] at h2
      cases hq : s.tm[i]? with
      | none => simp [hq] at h2
      | some y => simp only [hq, Option.map_some, Option.some.injEq] at h2; subst h2; exact keepF _ _ (hr.tm i v y h1 hq)
    · rw [nl]
      simp only [AS.back, List.length_append, setLocs_len, setAll_len, List.length_map, List.length_drop]
      rw [hρl, hhr.len]
    · intro b hb
      rw [nX] at hb
      exact Nat.lt_of_lt_of_le (hr.hr.xlt b hb) hfr.le
    · intro b hb hx
      rw [nX] at hx
      rcases hb with ⟨r, base, hb⟩ | hb
      · rcases nowns r b base hb with ⟨_, h⟩ | ⟨j, h, _⟩
        · exact hr.hr.disj b (.l h) hx
        · exact hhr.disj b (.l h) ((hX b).2 ⟨.inr hx, fun hc => hr.hr.disj b (hownc b hc) hx⟩)
      · rcases (nT b).1 hb with ⟨h1, _⟩ | h1
        · exact hr.hr.disj b (.inr h1) hx
        · exact hhr.disj b (.inr h1) ((hX b).2 ⟨.inr hx, fun hc => hr.hr.disj b (hownc b hc) hx⟩)
    · intro r r' b base base' h1 h2
      rcases nowns r b base h1 with ⟨o1, p1⟩ | ⟨j1, p1, e1⟩ <;> rcases nowns r' b base' h2 with ⟨o2, p2⟩ | ⟨j2, p2, e2⟩
      · exact hr.hr.inj _ _ _ _ _ p1 p2
      · exact absurd (hst.sub b (own_lt hr.hr (.l p1)) (.l p2)) (lnot o1 p1)
      · exact absurd (hst.sub b (own_lt hr.hr (.l p2)) (.l p1)) (lnot o2 p2)
      · rw [e1, e2, hhr.inj _ _ _ _ _ p1 p2]
    · intro r o l h1 h2
      simp only [AS.back] at h1
      by_cases hrl : r < ρ.l.length
      · rw [List.getElem?_append_left (by rw [setAll_len]; simp; omega)] at h1
        by_cases hin : r ∈ rs
        · obtain ⟨j, hj, hjr⟩ := List.mem_iff_getElem.1 hin
          have hj' : rs[j]? = some r := by rw [List.getElem?_eq_getElem hj, hjr]
          rw [setAll_in rs _ _ j r hn hj' (by simp; omega) (by simp; omega), List.getElem?_map] at h1
          rw [nin j r hj'] at h2
          cases hq : L'[j]? with
          | none => simp [hq] at h1
          | some o' =>
            simp [hq] at h1; subst h1
            exact (hhr.ent j o' l hq h2).ren _ nname (fun b _ hb => nno b hb)
        · rw [setAll_out rs _ _ r hin, List.getElem?_map] at h1
          rw [nout r hin hrl] at h2
          cases hq : s.L[r]? with
          | none => simp [hq] at h1
          | some o0 =>
            simp only [hq, Option.map_some, Option.some.injEq] at h1
            subst h1
            have hent := hr.hr.ent r o0 l hq h2
            have hsame : ∀ b base, l = some (b, base) → w'.heap[b]? = w.heap[b]? := fun b base hl => by
              subst hl
              exact hst.fr.same b (own_lt hr.hr (.l h2)) (lnot hin h2)
            cases o0 with
            | dead => exact hent
            | cells cs =>
              obtain ⟨b, c, ty, g1, g2, g3, g4⟩ := hent
              refine ⟨b, c, ty, g1, by rw [hsame _ _ g1]; exact g2, by simpa using g3, fun i v x h5 h6 => ?_⟩
              simp only [List.getElem?_map] at h6
              cases hx : cs[i]? with
              | none => simp [hx] at h6
              | some y => simp only [hx, Option.map_some, Option.some.injEq] at h6; subst h6; exact keepF _ _ (g4 i v y h5 hx)
            | slab cs =>
              rcases hent with ⟨hz1, hz2⟩ | ⟨b, base0, c, ty, g1, g2, g3, g4⟩
              · exact .inl ⟨hz1, by simpa using hz2⟩
              refine .inr ⟨b, base0, c, ty, g1, by rw [hsame _ _ g1]; exact g2, by simpa using g3, fun i v x h5 h6 => ?_⟩
              simp only [List.getElem?_map] at h6
              cases hx : cs[i]? with
              | none => simp [hx] at h6
              | some y => simp only [hx, Option.map_some, Option.some.injEq] at h6; subst h6; exact keepF _ _ (g4 i v y h5 hx)
            | vec k es =>
              obtain ⟨h0, hl, hd⟩ := hent
              refine ⟨h0, hl, ?_⟩
              rcases hd with hd | ⟨b, base', c, ty, g1, g2, g3, g4⟩
              · exact .inl hd
              · exact .inr ⟨b, base', c, ty, g1, by rw [hsame _ _ g1]; exact g2, g3, fun i j ei x h5 h6 => let ⟨v, h7, h8⟩ := g4 i j ei x h5 h6; ⟨v, h7, keepP _ _ h8⟩⟩
            | forest S items => exact ⟨hent.1, hent.2.keep fun b hS hlt => hst.fr.same b hlt (tnot (hr.hr.t.sub _ _ _ b hq hS) (fnot hin hq hS))⟩
      · rw [List.getElem?_append_right (by rw [setAll_len]; simp; omega), setAll_len] at h1
        simp only [List.length_map, List.getElem?_map, List.getElem?_drop] at h1
        rw [nnew r (by omega), hρl] at h2
        cases hq : L'[rs.length + (r - s.L.length)]? with
        | none => simp [hq] at h1
        | some o' =>
          simp [hq] at h1; subst h1
          exact (hhr.ent _ o' l hq h2).ren _ nname (fun b _ hb => nno b hb)
    · rcases (nT b).1 hb with ⟨h1, _⟩ | h1
      · exact Nat.lt_of_lt_of_le (hr.hr.t.lt b h1) hfr.le
      · exact hhr.t.lt b h1
    · rcases (nT b).1 ht with ⟨h1, h2⟩ | h1 <;> rcases nowns r b base hl with ⟨ho, h⟩ | ⟨j, h, _⟩
      · exact hr.hr.t.dl b r base h1 h
      · exact tnot h1 h2 (hst.sub b (hr.hr.t.lt b h1) (.l h))
      · exact lnot ho h (hst.sub b (own_lt hr.hr (.l h)) (.inr h1))
      · exact hhr.t.dl b j base h1 h
    · rcases nfor hrL with ⟨ho, h⟩ | ⟨j, h, _⟩
      · exact (nT b).2 (.inl ⟨hr.hr.t.sub _ _ _ b h hS, fnot ho h hS⟩)
      · exact (nT b).2 (.inr (hhr.t.sub _ _ _ b h hS))
    · rcases nfor h1 with ⟨o1, p1⟩ | ⟨j1, p1, e1⟩ <;> rcases nfor h2 with ⟨o2, p2⟩ | ⟨j2, p2, e2⟩
      · exact hr.hr.t.dis _ _ _ _ _ _ b p1 p2 hS hS'
      · have ht := hr.hr.t.sub _ _ _ b p1 hS
        exact absurd (hst.sub b (hr.hr.t.lt b ht) (.inr (hhr.t.sub _ _ _ b p2 hS'))) (tnot ht (fnot o1 p1 hS))
      · have ht := hr.hr.t.sub _ _ _ b p2 hS'
        exact absurd (hst.sub b (hr.hr.t.lt b ht) (.inr (hhr.t.sub _ _ _ b p1 hS))) (tnot ht (fnot o2 p2 hS'))
      · rw [e1, e2, hhr.t.dis _ _ _ _ _ _ b p1 p2 hS hS']
    · refine hstay r l ?_ hl
      by_cases h2 : r ∈ rs
      · obtain ⟨j, hj, hjr⟩ := List.mem_iff_getElem.1 h2
        have hj' : rs[j]? = some r := by rw [List.getElem?_eq_getElem hj, hjr]
        have : r ∉ movedBy rs fxc := fun hm => (mem_moved hn hj').1 hm (hfx j r hj' hrf)
        simpa using this
      · simpa using not_moved h2

end
section
variable {P : Program} {T : TypeId → Ty} {fx bl : List Nat}

theorem kcall_ks {KK : Env → World → Prop} (hKs : Shrinks KK) {f : FuncId} {args argsC : List AV} {L0 : List OB} {fxc : List Nat} {R : AV → List OB → Prop} (h : ACallsK P KK f args L0 fxc R) (rs : List Nat) {s : AS} (hk : keepL (nameIn rs s.L.length) s.L rs L0) (hn : rs.Nodup)
    (hfx : (rs.zipIdx.all fun p => !fx.contains p.1 || fxc.contains p.2) = true) (hargs : argsC = args.map (AV.ren (nameIn rs s.L.length))) {K : AV → AS → Prop} (hK : ∀ res L', R res L' → K (res.ren (nameIn rs s.L.length)) (s.back rs fxc L')) : KCall P fx KK (.fn f []) argsC s K :=
  kcall hKs h s rs hn (keepL_in hk).1 (keepL_in hk).2 (fun j r hj hr => by
    have := List.all_eq_true.1 hfx (r, j) (List.mem_zipIdx_iff_getElem?.2 hj)
    simp only [Bool.or_eq_true, Bool.not_eq_true', List.contains_eq_mem, decide_eq_true_eq, decide_eq_false_iff_not] at this
    rcases this with h1 | h1
    · exact absurd hr h1
    · exact h1) (by rw [List.append_nil]; exact hargs) fun res L' hR _ => hK res L' hR

theorem kcall_own {KK : Env → World → Prop} (hKs : Shrinks KK) {f : FuncId} {args argsC : List AV} {L0 : List OB} {fxc : List Nat} {R : AV → List OB → Prop} (h : ACallsK P KK f args L0 fxc R) (rs ms : List Nat) {s : AS} (hk : keepL (nameIn rs s.L.length) s.L rs L0) (hn : rs.Nodup)
    (hfx : (rs.zipIdx.all fun p => !fx.contains p.1 || fxc.contains p.2) = true) (hm : movedBy rs fxc = ms) (hargs : argsC = args.map (AV.ren (nameIn rs s.L.length))) {K : AV → AS → Prop}
    (hK : ∀ res L', R res L' → K (res.ren (nameIn rs s.L.length)) ⟨s.tm.map (AV.filt (keepRs ms)), setAll (s.L.map (OB.filt (keepRs ms))) rs (L'.map (OB.ren (nameIn rs s.L.length))) ++ (L'.drop rs.length).map (OB.ren (nameIn rs s.L.length))⟩) : KCall P fx KK (.fn f []) argsC s K :=
  kcall_ks hKs h rs hk hn hfx hargs fun res L' hR => by
    have e : (fun r => !(movedBy rs fxc).contains r) = keepRs ms := by
      funext r
      rw [hm, keepRs]
      congr 1
      rw [Bool.eq_iff_iff, inR_mem]
      simp
    have := hK res L' hR
    simp only [AS.back, e]
    exact this


theorem ACallsK.mono {KK : Env → World → Prop} {f : FuncId} {args : List AV} {L0 : List OB} {fx : List Nat} {R R' : AV → List OB → Prop} (h : ACallsK P KK f args L0 fx R) (hh : ∀ r L, R r L → R' r L) : ACallsK P KK f args L0 fx R' :=
  ⟨h.1, fun ρ w vs h0 h1 h2 h3 => (h.2 ρ w vs h0 h1 h2 h3).mono fun _ _ ⟨v, res, L', ρ', e, hr, g⟩ => ⟨v, res, L', ρ', e, hh _ _ hr, g⟩⟩

theorem filtL_none (n : Nat) (l : List AV) : l.map (AV.filt (keepRs [])) = l := by
  have : keepRs [] = fun _ => true := by funext q; simp [keepRs, inR]
  rw [this]
  induction l with
  | nil => rfl
  | cons x l ih => rw [List.map_cons, ih, AV.filt_true]
theorem of_keep (o : OB) : o.filt (keepRs []) = o := by
  have : keepRs [] = fun _ => true := by funext q; simp [keepRs, inR]
  rw [this]
  cases o with
  | cells cs => simp only [OB.filt]; congr 1; rw [← this]; exact filtL_none 0 cs
  | slab cs => simp only [OB.filt]; congr 1; rw [← this]; exact filtL_none 0 cs
  | _ => rfl
/-- A call of values in worlds of a kind. -/
theorem kcall_one {KK : Env → World → Prop} (hKs : Shrinks KK) {f : FuncId} {args : List AV} {x : AV} (h : ACallsK P KK f args [] [] (fun r L => r = x ∧ L = [])) (hfree : freeL args = true) (hx : x.free = true) {s : AS} {K : AV → AS → Prop} (hK : K x s) : KCall P fx KK (.fn f []) args s K := by
  refine kcall_own hKs h [] [] trivial (by simp) (by simp) rfl ?_ ?_
  · rw [← renL_map, freeL_rend _ hfree]
  · intro r L ⟨h1, h2⟩
    rw [h1, h2]
    have e1 : x.ren (nameIn [] s.L.length) = x := AV.free_ren _ x hx
    have e2 : s.L.map (OB.filt (keepRs [])) = s.L := by rw [List.map_congr_left (fun o _ => of_keep o), List.map_id']
    rw [e1, filtL_none 0, e2]
    simpa [setAll] using hK

theorem awpK_block {KK : Env → World → Prop} {id : Nat} {c : Code} {Q : Exit → AS → Prop} {s : AS} (h : awpK P fx KK c (InB id Q) s) : awpK P fx KK (.block id c) Q s := fun ρ a w hr hk => by
  refine wp_block (wp_mono (h ρ a w hr hk) fun e a' w' ⟨s', ρ', h1, h2⟩ => ?_)
  cases e with
  | exit i =>
    simp only [InB] at h1
    simp only [Exit.inBlock]
    split
    · rename_i hi; rw [if_pos hi] at h1; exact ⟨s', ρ', h1, h2⟩
    · rename_i hi; rw [if_neg hi] at h1; exact ⟨s', ρ', h1, h2⟩
  | _ => exact ⟨s', ρ', h1, h2⟩

theorem awpK_loop {KK : Env → World → Prop} (hKS : Stays KK) {c : Code} {Q : Exit → AS → Prop} {s : AS} {G : Type} (I : G → Prop) (st : G → AS) (μ : G → Nat) (g0 : G) (hI : I g0) (h0 : Wk fx s (st g0)) (round : ∀ g, I g → awpK P fx KK c (Lp fx I st μ (μ g) Q) (st g)) :
    awpK P fx KK (.loop c) Q s := fun ρ a w hr hkk => by
  obtain ⟨ρ0, h1, k1⟩ := h0 ρ a w hr
  refine wp_loop (fun a' w' => ∃ g, I g ∧ ∃ ρ', Rel ρ' (st g) a' w' ∧ St fx ρ w ρ' w') (fun a' w' => sInf' fun n => ∃ g, μ g = n ∧ I g ∧ ∃ ρ', Rel ρ' (st g) a' w' ∧ St fx ρ w ρ' w') ⟨g0, hI, ρ0, h1, k1⟩ ?_
  intro a' w' ⟨g, hg, ρ', hr', hst⟩
  have hex : ∃ n, (fun n => ∃ g, μ g = n ∧ I g ∧ ∃ ρ', Rel ρ' (st g) a' w' ∧ St fx ρ w ρ' w') n := ⟨μ g, g, rfl, hg, ρ', hr', hst⟩
  obtain ⟨⟨g1, e1, hg1, ρ1, hr1, hst1⟩, hmin⟩ := sInf'_spec hex
  refine wp_mono (round g1 hg1 ρ1 a' w' hr1 (hKS _ _ _ _ _ hkk hst1)) fun e a'' w'' ⟨s', ρ'', q1, q2, q3⟩ => ?_
  cases e with
  | normal =>
    obtain ⟨g2, hg2, hlt, hwk⟩ := q1
    obtain ⟨ρ2, hr2, hst2⟩ := hwk ρ'' a'' w'' q2
    have hS : St fx ρ w ρ2 w'' := (hst1.trans q3).trans hst2
    refine ⟨⟨g2, hg2, ρ2, hr2, hS⟩, ?_⟩
    have hex2 : ∃ n, (fun n => ∃ g, μ g = n ∧ I g ∧ ∃ ρ', Rel ρ' (st g) a'' w'' ∧ St fx ρ w ρ' w'') n := ⟨μ g2, g2, rfl, hg2, ρ2, hr2, hS⟩
    have h3 := (sInf'_spec hex2).2 (μ g2) ⟨g2, rfl, hg2, ρ2, hr2, hS⟩
    rw [← e1]
    omega
  | _ => exact ⟨s', ρ'', q1, q2, hst1.trans q3⟩


theorem awpK_loop_h {KK : Env → World → Prop} (hKS : Stays KK) {c : Code} {Q : Exit → AS → Prop} {s : AS} {G : Type} (lo n : Nat) (vals : G → List (Nat × AV)) (Ls : G → List OB) (I : G → Prop) (μ : G → Nat) (g0 : G) (hI : I g0)
    (h0 : Wk fx s (s.hav lo n (vals g0) (Ls g0))) (round : ∀ g, I g → awpK P fx KK c (Lp fx I (fun g => s.hav lo n (vals g) (Ls g)) μ (μ g) Q) (s.hav lo n (vals g) (Ls g))) :
    awpK P fx KK (.loop c) Q s := awpK_loop hKS I _ μ g0 hI h0 round
theorem awpK_wk {KK : Env → World → Prop} (hKS : Stays KK) {c : Code} {Q : Exit → AS → Prop} {s t : AS} (hw : Wk fx s t) (h : awpK P fx KK c Q t) : awpK P fx KK c Q s := fun ρ a w hr hk => by
  obtain ⟨ρ1, h1, g1⟩ := hw ρ a w hr
  exact wp_mono (h ρ1 a w h1 (hKS _ _ _ _ _ hk g1)) fun e a' w' ⟨s', ρ', q1, q2, q3⟩ => ⟨s', ρ', q1, q2, g1.trans q3⟩
theorem kthen_exit {KK : Env → World → Prop} {y : Code} {Q : Exit → AS → Prop} {s : AS} {i : Nat} : KThen P fx KK y Q (.exit i) s = Q (.exit i) s := nrf rfl
end
theorem DCrk0 : type_of% @kthen_exit := @kthen_exit
end Go.Pc
