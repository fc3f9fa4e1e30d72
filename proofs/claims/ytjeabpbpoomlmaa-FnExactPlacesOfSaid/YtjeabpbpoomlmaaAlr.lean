/- The abstract logic, eighth part: loops, states weakened, what a body returns, own rows that become immutable. -/
import Derived.Test.YtjeabpbpoomlmaaAlw
set_option linter.unusedSimpArgs false
set_option linter.unusedVariables false
namespace Go.Pc
open Go

/-- A state may be taken for another one, that says less. -/
def Wk (fx : List Nat) (s t : AS) : Prop := ∀ (ρ : Env) (a : Act) (w : World), Rel ρ s a w → ∃ ρ', Rel ρ' t a w ∧ St fx ρ w ρ' w

theorem Wk.refl {fx : List Nat} {s : AS} : Wk fx s s := fun ρ _ _ h => ⟨ρ, h, .refl⟩
theorem Wk.trans {fx : List Nat} {s t u : AS} (h : Wk fx s t) (h' : Wk fx t u) : Wk fx s u := fun ρ a w hr => by
  obtain ⟨ρ1, h1, g1⟩ := h ρ a w hr
  obtain ⟨ρ2, h2, g2⟩ := h' ρ1 a w h1
  exact ⟨ρ2, h2, g1.trans g2⟩

theorem least_ex {p : Nat → Prop} (h : ∃ n, p n) : ∃ n, p n ∧ ∀ m, p m → n ≤ m := by
  obtain ⟨n, hn⟩ := h
  induction n using Nat.strongRecOn with
  | _ n ih =>
    by_cases hm : ∃ m, m < n ∧ p m
    · obtain ⟨m, hlt, hp⟩ := hm
      exact ih m hlt hp
    · exact ⟨n, hn, fun m hp => Nat.le_of_not_lt fun hlt => hm ⟨m, hlt, hp⟩⟩

open Classical in
noncomputable def sInf' (p : Nat → Prop) : Nat := if h : ∃ n, p n then Classical.choose (least_ex h) else 0

theorem sInf'_spec {p : Nat → Prop} (h : ∃ n, p n) : p (sInf' p) ∧ ∀ m, p m → sInf' p ≤ m := by
  unfold sInf'
  rw [dif_pos h]
  exact Classical.choose_spec (least_ex h)

section
variable {P : Program} {T : TypeId → Ty} {fx bl : List Nat}

theorem awp_wk {c : Code} {Q : Exit → AS → Prop} {s t : AS} (h : Wk fx s t) (h' : awp P fx c Q t) : awp P fx c Q s := fun ρ a w hr => by
  obtain ⟨ρ1, h1, g1⟩ := h ρ a w hr
  exact wp_mono (h' ρ1 a w h1) fun e a' w' ⟨s', ρ', q1, q2, q3⟩ => ⟨s', ρ', q1, q2, g1.trans q3⟩

/-- What stands at a round's end. -/
def Lp {G : Type} (fx : List Nat) (I : G → Prop) (st : G → AS) (μ : G → Nat) (n : Nat) (Q : Exit → AS → Prop) (e : Exit) (s : AS) : Prop :=
  match e with
  | .normal => ∃ g, I g ∧ μ g < n ∧ Wk fx s (st g)
  | .exit i => Q (.exit i) s
  | .goto l => Q (.goto l) s
  | .ret => Q .ret s
  | .panic c => Q (.panic c) s
  | .outgrown => Q .outgrown s

/-- THE RULE FOR A LOOP: a state for each value of a ghost, a measure that every round lowers. -/
theorem awp_loop {c : Code} {Q : Exit → AS → Prop} {s : AS} {G : Type} (I : G → Prop) (st : G → AS) (μ : G → Nat) (g0 : G) (hI : I g0) (h0 : Wk fx s (st g0)) (round : ∀ g, I g → awp P fx c (Lp fx I st μ (μ g) Q) (st g)) :
    awp P fx (.loop c) Q s := fun ρ a w hr => by
  obtain ⟨ρ0, h1, k1⟩ := h0 ρ a w hr
  refine wp_loop (fun a' w' => ∃ g, I g ∧ ∃ ρ', Rel ρ' (st g) a' w' ∧ St fx ρ w ρ' w') (fun a' w' => sInf' fun n => ∃ g, μ g = n ∧ I g ∧ ∃ ρ', Rel ρ' (st g) a' w' ∧ St fx ρ w ρ' w') ⟨g0, hI, ρ0, h1, k1⟩ ?_
  intro a' w' ⟨g, hg, ρ', hr', hst⟩
  have hex : ∃ n, (fun n => ∃ g, μ g = n ∧ I g ∧ ∃ ρ', Rel ρ' (st g) a' w' ∧ St fx ρ w ρ' w') n := ⟨μ g, g, rfl, hg, ρ', hr', hst⟩
  obtain ⟨⟨g1, e1, hg1, ρ1, hr1, hst1⟩, hmin⟩ := sInf'_spec hex
  refine wp_mono (round g1 hg1 ρ1 a' w' hr1) fun e a'' w'' ⟨s', ρ'', q1, q2, q3⟩ => ?_
  cases e with
  | normal =>
    obtain ⟨g2, hg2, hlt, hwk⟩ := q1
    obtain ⟨ρ2, hr2, hst2⟩ := hwk ρ'' a'' w'' q2
    have hS : St fx ρ w ρ2 w'' := (hst1.trans q3).trans hst2
    refine ⟨⟨g2, hg2, ρ2, hr2, hS⟩, ?_⟩
    have hex2 : ∃ n, (fun n => ∃ g, μ g = n ∧ I g ∧ ∃ ρ', Rel ρ' (st g) a'' w'' ∧ St fx ρ w ρ' w'') n := ⟨μ g2, g2, rfl, hg2, ρ2, hr2, hS⟩
    have h3 := (sInf'_spec hex2).2 (μ g2) ⟨g2, rfl, hg2, ρ2, hr2, hS⟩
    rw [← e1]
    omega
  | _ => exact ⟨s', ρ'', q1, q2, hst1.trans q3⟩

/-! ### States weakened -/

mutual
/-- Only own blocks below m are named. -/
def AV.under (m : Nat) : AV → Bool
  | .any => true
  | .val _ => true
  | .agg l => underL m l
  | .tup l => underL m l
  | .sl _ => true
  | .ip _ => true
  | .ptr r _ => decide (r < m)
  | .vp r _ _ _ => decide (r < m)
  | .os r _ _ _ => decide (r < m)
  | .fn _ l => underL m l
def underL (m : Nat) : List AV → Bool
  | [] => true
  | x :: l => x.under m && underL m l
end

theorem under_mem {m : Nat} : ∀ {l : List AV} {x : AV}, underL m l = true → x ∈ l → x.under m = true
  | [], _, _, h => by cases h
  | y :: l, x, h, hx => by
    simp only [underL, Bool.and_eq_true] at h
    rcases List.mem_cons.1 hx with rfl | hx
    · exact h.1
    · exact under_mem h.2 hx

mutual
theorem AV.under_filt (m : Nat) : ∀ (x : AV), x.under m = true → x.filt (fun r => decide (r < m)) = x
  | .any, _ | .val _, _ | .sl _, _ | .ip _, _ => by simp [AV.filt]
  | .ptr r _, h | .vp r _ _ _, h | .os r _ _ _, h => by simp only [AV.under] at h; simp only [AV.filt]; rw [if_pos h]
  | .agg l, h | .tup l, h | .fn _ l, h => by simp only [AV.under] at h; simp only [AV.filt, underL_filt m l h]
theorem underL_filt (m : Nat) : ∀ (l : List AV), underL m l = true → filtL (fun r => decide (r < m)) l = l
  | [], _ => rfl
  | x :: l, h => by
    simp only [underL, Bool.and_eq_true] at h
    simp only [filtL, AV.under_filt m x h.1, underL_filt m l h.2]
end

def OB.under (m : Nat) : OB → Bool
  | .cells cs => underL m cs
  | _ => true

/-- One value may stand for another one. -/
def leAV (m : Nat) (x y : AV) : Prop := y = .any ∨ (x = y ∧ y.under m = true) ∨ (x = .val (.slice none 0 0) ∧ y = .sl [])

def leTm (m : Nat) : List AV → List AV → Prop
  | [], [] => True
  | x :: xs, y :: ys => leAV m x y ∧ leTm m xs ys
  | _, _ => False

def leL (m : Nat) : List OB → List OB → Prop
  | _, [] => True
  | o :: os, o' :: os' => o = o' ∧ o'.under m = true ∧ leL m os os'
  | [], _ :: _ => False

theorem leTm_get {m : Nat} : ∀ {xs ys : List AV}, leTm m xs ys → xs.length = ys.length ∧ ∀ (i : Nat) y, ys[i]? = some y → ∃ x, xs[i]? = some x ∧ leAV m x y
  | [], [], _ => ⟨rfl, by simp⟩
  | x :: xs, y :: ys, h => by
    obtain ⟨h1, h2⟩ := leTm_get h.2
    refine ⟨by simp [h1], fun i z hz => ?_⟩
    cases i with
    | zero => simp at hz; subst hz; exact ⟨x, rfl, h.1⟩
    | succ i => simpa using h2 i z (by simpa using hz)
  | [], _ :: _, h => by cases h
  | _ :: _, [], h => by cases h

theorem leL_get {m : Nat} : ∀ {os os' : List OB}, leL m os os' → os'.length ≤ os.length ∧ ∀ (i : Nat) o, os'[i]? = some o → os[i]? = some o ∧ o.under m = true
  | _, [], _ => ⟨by simp, by simp⟩
  | o :: os, o' :: os', h => by
    obtain ⟨h1, h2⟩ := leL_get h.2.2
    refine ⟨by simp [h1], fun i z hz => ?_⟩
    cases i with
    | zero => simp at hz; subst hz; exact ⟨by simp [h.1], h.2.1⟩
    | succ i => simpa using h2 i z (by simpa using hz)
  | [], _ :: _, h => by cases h

theorem Env.take_own {ρ : Env} {m b : Nat} (h : own { ρ with l := ρ.l.take m } b) : own ρ b := by
  rcases h with ⟨r, base, hr⟩ | h
  · simp only [List.getElem?_take] at hr
    split at hr
    · exact .l hr
    · cases hr
  · exact .inr h

/-- The rule for weakening: junk forgotten, the last own blocks dropped. -/
theorem wk_le {s t : AS} (h1 : leTm t.L.length s.tm t.tm) (h2 : leL t.L.length s.L t.L) (hfx : ∀ r ∈ fx, r < t.L.length) : Wk fx s t := fun ρ a w hr => by
  obtain ⟨l1, g1⟩ := leTm_get h1
  obtain ⟨l2, g2⟩ := leL_get h2
  generalize hm : t.L.length = m at *
  have hno : ∀ b, no { ρ with l := ρ.l.take m } b → no ρ b := fun b hb => by
    rcases hb with hb | hb
    · exact .inl (Env.take_own hb)
    · exact .inr hb
  have keep : ∀ v x, VR w ρ v x → x.under m = true → VR w { ρ with l := ρ.l.take m } v x := fun v x hv hx => by
    have := hv.mono (w' := w) (ρ' := { ρ with l := ρ.l.take m }) .refl (fun b _ hb => hno b hb) (fun r => decide (r < m)) (fun r l hp hl => by
      simp only [List.getElem?_take]
      rw [if_pos (by simpa using hp)]
      exact hl)
    rwa [AV.under_filt m x hx] at this
  refine ⟨{ ρ with l := ρ.l.take m }, ⟨hr.dfr, by rw [hr.size, l1], fun i v y h3 h4 => ?_, ⟨by simp; rw [hr.hr.len, hm]; omega, hr.hr.xlt, fun b hb => hr.hr.disj b (Env.take_own hb), fun r r' b base base' h3 h4 => ?_, fun r o l h3 h4 => ?_, ⟨hr.hr.t.lt, fun b r base ht h3 => ?_, fun r S items b h3 => hr.hr.t.sub r S items b (g2 r _ h3).1, fun r r' S S' items items' b h3 h4 => hr.hr.t.dis r r' S S' items items' b (g2 r _ h3).1 (g2 r' _ h4).1⟩⟩⟩, ⟨.refl, fun b _ hb => Env.take_own hb, fun r hrf x hx => ?_, rfl⟩⟩
  · obtain ⟨x, h5, h6⟩ := g1 i y h4
    rcases h6 with rfl | ⟨rfl, hb⟩ | ⟨rfl, rfl⟩
    · exact .pr (.any _)
    · exact keep _ _ (hr.tm i v x h3 h5) hb
    · have := val_inv (hr.tm i v _ h3 h5)
      subst this
      exact .pr (.slnil _ _)
  · simp only [List.getElem?_take] at h3 h4
    split at h3
    · split at h4
      · exact hr.hr.inj _ _ _ _ _ h3 h4
      · cases h4
    · cases h3
  · simp only [List.getElem?_take] at h4
    split at h4
    · obtain ⟨h5, h6⟩ := g2 r o h3
      have he := hr.hr.ent r o l h5 h4
      cases o with
      | dead => exact he
      | cells cs =>
        obtain ⟨b, c, e, q1, q2, q3, q4⟩ := he
        refine ⟨b, c, e, q1, q2, q3, fun i v x a1 a2 => keep _ _ (q4 i v x a1 a2) ?_⟩
        exact under_mem h6 (List.mem_of_getElem? a2)
      | vec k es =>
        obtain ⟨q0, ql, qd⟩ := he
        refine ⟨q0, ql, ?_⟩
        rcases qd with qd | ⟨b, base, c, e, q1, q2, q3, q4⟩
        · exact .inl qd
        · exact .inr ⟨b, base, c, e, q1, q2, q3, fun i j ei x a1 a2 => let ⟨v, a3, a4⟩ := q4 i j ei x a1 a2; ⟨v, a3, a4.mono (fun _ _ _ => rfl) (Nat.le_refl _) (fun b _ hb => hno b hb)⟩⟩
      | forest S items => exact he
    · cases h4
  · simp only [List.getElem?_take] at h3
    split at h3
    · exact hr.hr.t.dl b r base ht h3
    · cases h3
  · simp only [List.getElem?_take]
    rw [if_pos (hfx r hrf)]
    exact hx

end
end Go.Pc
