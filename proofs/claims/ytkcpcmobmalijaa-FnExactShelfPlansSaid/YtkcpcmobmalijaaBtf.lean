/- An own row that stands in an own variable becomes a value with memory of its own, in the middle of a walk. -/
import Derived.Test.YtkcpcmobmalijaaTr
set_option linter.unusedSimpArgs false
set_option linter.unusedVariables false
namespace Go.Pc
open Go Go.Proofs

section
variable {P : Program} {T : TypeId → Ty} {fx bl : List Nat}

theorem HR.cellset {w : World} {ρ : Env} {L : List OB} (h : HR w ρ L) {q i : Nat} {cs : List AV} (hq : L[q]? = some (.cells cs)) {u : Value} (hu : ∀ (b : Nat) c e, ρ.l[q]? = some (some (b, 0)) → w.heap[b]? = some (.cells c e (0, 0)) → ∀ v, c[i]? = some v → v = u) : HR w ρ (L.set q (.cells (cs.set i (.val u)))) := by
  have hfo : ∀ {r : Nat} {S : Nat → Prop} {l : List (Value × AV)}, (L.set q (.cells (cs.set i (.val u))))[r]? = some (.forest S l) → L[r]? = some (.forest S l) := fun {r S l} hh => by
    rcases AS.set_get (s := ⟨[], L⟩) hh with ⟨_, h2⟩ | ⟨_, h2⟩
    · cases h2
    · exact h2
  refine ⟨by simp [h.len], h.xlt, h.disj, h.inj, fun r o l h1 h2 => ?_, ⟨h.t.lt, h.t.dl, fun r S l b h1 hb => h.t.sub _ _ _ b (hfo h1) hb, fun r r' S S' l l' b h1 h2 hb hb' => h.t.dis _ _ _ _ _ _ b (hfo h1) (hfo h2) hb hb'⟩⟩
  rcases AS.set_get (s := ⟨[], L⟩) h1 with ⟨rfl, rfl⟩ | ⟨_, h3⟩
  · obtain ⟨b, c, e, g1, g2, g3, g4⟩ := h.ent r _ l hq h2
    refine ⟨b, c, e, g1, g2, by simpa using g3, fun j v x hv hx => ?_⟩
    by_cases ej : i = j
    · subst ej
      have hil : i < cs.length := by
        have := (List.getElem?_eq_some_iff.1 hx).1
        simpa using this
      rw [List.getElem?_set_self hil] at hx
      cases hx
      rw [hu b c e (by rw [h2, g1]) g2 v hv]
      exact .pr (.val _)
    · rw [List.getElem?_set_ne ej] at hx
      exact g4 j v x hv hx
  · exact h.ent r o l h3 h2

/-- An own row that a variable holds is closed. -/
theorem awp_closeC {c : Code} {Q : Exit → AS → Prop} {s : AS} (q i r k n : Nat) {rows : List (List AV)} {cs : List AV} (hq : s.L[q]? = some (.cells cs)) (hi : cs[i]? = some (.os r k 0 n)) (hL : s.L[r]? = some (.vec k rows)) (hall : exactR rows = true) (hfx : r ∉ fx) (hn : n = rows.length)
    (h : ∀ S v, v.oneCell' = true → awp P fx c Q { s.kill r with L := ((s.kill r).L.set r (.forest S [(v, .sl rows)])).set q (.cells ((cs.map (AV.filt fun r' => r' != r)).set i (.val v))) }) : awp P fx c Q s := fun ρ a w hr => by
  subst hn
  have hlt : q < ρ.l.length := by rw [hr.hr.len]; exact (List.getElem?_eq_some_iff.1 hq).1
  obtain ⟨b, c', e, g1, g2, g3, g4⟩ := hr.hr.ent q _ _ hq (List.getElem?_eq_getElem hlt)
  have hic : i < c'.size := by rw [g3]; exact (List.getElem?_eq_some_iff.1 hi).1
  have hci : c'[i]? = some c'[i] := Array.getElem?_eq_getElem hic
  have hv := g4 i _ _ hci hi
  obtain ⟨S, ρ1, h1, st, hl⟩ := hr.close hL hall hfx hv
  have hrq : r ≠ q := fun e => by subst e; rw [hL] at hq; cases hq
  have hL1 : ((s.kill r).L.set r (.forest S [(c'[i], .sl rows)]))[q]? = some (.cells (cs.map (AV.filt fun r' => r' != r))) := by
    rw [List.getElem?_set_ne hrq]
    simp only [AS.kill, List.getElem?_map, hq]; rfl
  have hh := h1.hr.cellset (i := i) (u := c'[i]) hL1 fun b2 c2 e2 k1 k2 v hv => by
    rw [hl, List.getElem?_set_ne hrq, List.getElem?_eq_getElem hlt, g1] at k1
    cases k1
    rw [g2] at k2; cases k2
    rw [hci] at hv; cases hv; rfl
  exact wp_mono (h S c'[i] (one_sound hv rfl) ρ1 a w ⟨h1.dfr, h1.size, h1.tm, hh⟩) fun e a' w' ⟨s', ρ', q1, q2, q3⟩ => ⟨s', ρ', q1, q2, st.trans q3⟩

/-- Parts without memory. -/
theorem awp_pushf {c : Code} {Q : Exit → AS → Prop} {s : AS} (items : List (Value × AV)) (hi : ∀ w, Forest w (fun _ => False) items) (h : awp P fx c Q (s.push (.forest (fun _ => False) items))) : awp P fx c Q s := fun ρ a w hr => by
  obtain ⟨ρ1, h1, g1⟩ := wk_noforest (fx := fx) (s := s) ρ a w hr
  have get : ∀ {q : Nat} {o : OB}, (s.push (.forest (fun _ => False) items)).L[q]? = some o → (q < s.L.length ∧ (s.push (.forest (fun _ => False) [])).L[q]? = some o) ∨ (q = s.L.length ∧ o = .forest (fun _ => False) items) := fun {q o} ho => by
    simp only [AS.push] at ho ⊢
    by_cases hq : q < s.L.length
    · rw [List.getElem?_append_left hq] at ho ⊢; exact .inl ⟨hq, ho⟩
    · rw [List.getElem?_append_right (by omega)] at ho
      cases hk : q - s.L.length with
      | zero => rw [hk] at ho; simp at ho; exact .inr ⟨by omega, ho.symm⟩
      | succ k => rw [hk] at ho; simp at ho
  have hlast : (s.push (.forest (fun _ => False) [])).L[s.L.length]? = some (.forest (fun _ => False) []) := by simp [AS.push]
  have hh : HR w ρ1 (s.push (.forest (fun _ => False) items)).L := h1.hr.refor (by simp [AS.push]) (fun q o ho => by
      rcases get ho with ⟨_, h⟩ | ⟨rfl, rfl⟩
      · exact .inl h
      · exact .inr (.inr ⟨_, _, rfl⟩)) (fun q S l ho => by
      rcases get ho with ⟨_, h⟩ | ⟨rfl, h⟩
      · have hlt : q < ρ1.l.length := by rw [h1.hr.len]; exact (List.getElem?_eq_some_iff.1 h).1
        exact ⟨(h1.hr.ent q _ _ h (List.getElem?_eq_getElem hlt)).2, fun b hb => h1.hr.t.sub _ _ _ b h hb, .inr ⟨_, _, h⟩⟩
      · cases h; exact ⟨hi w, fun _ h => h.elim, .inr ⟨_, _, hlast⟩⟩) (fun q q' S S' l l' b ho ho' hb hb' => by
      rcases get ho with ⟨_, h⟩ | ⟨rfl, h⟩
      · rcases get ho' with ⟨_, h'⟩ | ⟨rfl, h'⟩
        · exact h1.hr.t.dis _ _ _ _ _ _ b h h' hb hb'
        · cases h'; exact hb'.elim
      · cases h; exact hb.elim)
  exact wp_mono (h ρ1 a w ⟨h1.dfr, h1.size, h1.tm, hh⟩) fun e a' w' ⟨s', ρ', q1, q2, q3⟩ => ⟨s', ρ', q1, q2, g1.trans q3⟩

/-- Parts are hung in, in the middle of a walk. -/
theorem awp_graft {c : Code} {Q : Exit → AS → Prop} {s : AS} {r r2 : Nat} (j0 : Nat) {S1 S2 : Nat → Prop} {v : Value} {es : List (List AV)} {kv : List Value} (hne : r ≠ r2) (h1 : s.L[r]? = some (.forest S1 [(v, .sl (rowsK j0 es kv))])) (h2 : s.L[r2]? = some (.forest S2 (itemsK j0 es kv))) (hl : kv.length = es.length)
    (h : ∀ S, awp P fx c Q { s with L := (s.L.set r (.forest S [(v, .sl es)])).set r2 .dead }) : awp P fx c Q s := fun ρ a w hr => by
  have hlt : ∀ {q : Nat} {o : OB}, s.L[q]? = some o → q < ρ.l.length := fun {q o} ho => by rw [hr.hr.len]; exact (List.getElem?_eq_some_iff.1 ho).1
  have f1 := (hr.hr.ent r _ _ h1 (List.getElem?_eq_getElem (hlt h1))).2
  have f2 := (hr.hr.ent r2 _ _ h2 (List.getElem?_eq_getElem (hlt h2))).2
  have hd : ∀ b, S1 b → S2 b → False := fun b hb hb' => hne (hr.hr.t.dis _ _ _ _ _ _ b h1 h2 hb hb')
  exact h (fun b => S1 b ∨ S2 b) ρ a w (hr.refor (hr.hr.join hne h1 h2 (fun _ h => h) (Forest.one.2 (TR.graft hl (Forest.one.1 f1) f2 hd))))

theorem awp_seqD {x y : Code} {Q : Exit → AS → Prop} {s : AS} (h : awp P fx x (AThen P fx y Q) s) : awp P fx (.seq x y) Q s := awp_seq h
theorem athen_m {y : Code} {Q : Exit → AS → Prop} {s : AS} (h : awp P fx y Q s) : AThen P fx y Q .normal s := h
theorem athen_mret {y : Code} {Q : Exit → AS → Prop} {s : AS} : AThen P fx y Q .ret s = Q .ret s := nrf rfl
/-- What is asked where the walk is cut: the state may be taken for one of some states, whatever comes. -/
def CutE (P : Program) (fx : List Nat) {G : Type} (I : G → Prop) (t : G → AS) (Q : Exit → AS → Prop) (e : Exit) (s : AS) : Prop :=
  match e with
  | .normal => ∀ (c : Code) (Q' : Exit → AS → Prop), (∀ g, I g → awp P fx c Q' (t g)) → awp P fx c Q' s
  | .exit i => Q (.exit i) s
  | .goto l => Q (.goto l) s
  | .ret => Q .ret s
  | .panic c => Q (.panic c) s
  | .outgrown => Q .outgrown s
theorem cute {G : Type} {I : G → Prop} {t : G → AS} {Q : Exit → AS → Prop} {s : AS} (h : ∀ (c : Code) (Q' : Exit → AS → Prop), (∀ g, I g → awp P fx c Q' (t g)) → awp P fx c Q' s) : CutE P fx I t Q .normal s := h
theorem awp_cutE {x y : Code} {Q : Exit → AS → Prop} {s : AS} {G : Type} (lo n : Nat) (vals : G → List (Nat × AV)) (Ls : G → List OB) (I : G → Prop)
    (h1 : awp P fx x (CutE P fx I (fun g => s.hav lo n (vals g) (Ls g)) Q) s) (h2 : ∀ g, I g → awp P fx y Q (s.hav lo n (vals g) (Ls g))) : awp P fx (.seq x y) Q s := by
  refine awp_seqD fun ρ a w hr => wp_mono (h1 ρ a w hr) fun e a' w' ⟨s', ρ', q1, q2, q3⟩ => ⟨s', ρ', ?_, q2, q3⟩
  cases e with
  | normal => exact q1 y Q h2
  | _ => exact q1
end
theorem DBtf0 : type_of% @athen_mret := @athen_mret
end Go.Pc
