/- Results that are trees, with memory of their own. -/
import Derived.Test.YtkcpcmobmalijaaTq
set_option linter.unusedSimpArgs false
set_option linter.unusedVariables false
namespace Go.Pc
open Go Go.Proofs

section
variable {P : Program} {T : TypeId → Ty} {fx bl : List Nat}

/-- A place in a value where an own row stands, whole; all else does not name it. -/
inductive Cl (r k n : Nat) : AV → (Value → AV) → Prop
  | here : Cl r k n (.os r k 0 n) .val
  | agg (l : List AV) (j : Nat) (x : AV) (f : Value → AV) (hj : l[j]? = some x) (h : Cl r k n x f) (ho : ∀ (i : Nat) y, l[i]? = some y → i ≠ j → y.filt (fun q => q != r) = y) : Cl r k n (.agg l) (fun v => .agg (l.set j (f v)))
  | tup (l : List AV) (j : Nat) (x : AV) (f : Value → AV) (hj : l[j]? = some x) (h : Cl r k n x f) (ho : ∀ (i : Nat) y, l[i]? = some y → i ≠ j → y.filt (fun q => q != r) = y) : Cl r k n (.tup l) (fun v => .tup (l.set j (f v)))

theorem Cl.find {r k n : Nat} {x : AV} {f : Value → AV} (h : Cl r k n x f) : ∀ {w : World} {ρ : Env} {u : Value}, VR w ρ u x → ∃ v, VR w ρ v (.os r k 0 n) ∧ ∀ ρ1 : Env, (∀ b, b < w.heap.size → no ρ1 b → no ρ b) → (∀ (q : Nat) l, (q != r) = true → ρ.l[q]? = some l → ρ1.l[q]? = some l) → VR w ρ1 u (f v) := by
  induction h with
  | here => exact fun {w ρ u} hu => ⟨u, hu, fun _ _ _ => .pr (.val _)⟩
  | agg l j x f hj h ho ih =>
    intro w ρ u hu
    cases hu with
    | pr hp => cases hp
    | agg c _ hs hc =>
      have hjl := (List.getElem?_eq_some_iff.1 hj).1
      have hcj : c[j]? = some c[j] := Array.getElem?_eq_getElem (by omega)
      obtain ⟨v, h1, h2⟩ := ih (hc j _ x hcj hj)
      refine ⟨v, h1, fun ρ1 hn hl => .agg c _ (by simpa using hs) fun i y z hy hz => ?_⟩
      by_cases e : j = i
      · subst e
        rw [List.getElem?_set_self hjl] at hz
        cases hz
        rw [hcj] at hy; cases hy
        exact h2 ρ1 hn hl
      · rw [List.getElem?_set_ne e] at hz
        have h3 := (hc i y z hy hz).mono (w' := w) (ρ' := ρ1) .refl hn _ hl
        rwa [ho i z hz (fun e' => e e'.symm)] at h3
  | tup l j x f hj h ho ih =>
    intro w ρ u hu
    cases hu with
    | pr hp => cases hp
    | tup c _ hs hc =>
      have hjl := (List.getElem?_eq_some_iff.1 hj).1
      have hcj : c[j]? = some c[j] := Array.getElem?_eq_getElem (by omega)
      obtain ⟨v, h1, h2⟩ := ih (hc j _ x hcj hj)
      refine ⟨v, h1, fun ρ1 hn hl => .tup c _ (by simpa using hs) fun i y z hy hz => ?_⟩
      by_cases e : j = i
      · subst e
        rw [List.getElem?_set_self hjl] at hz
        cases hz
        rw [hcj] at hy; cases hy
        exact h2 ρ1 hn hl
      · rw [List.getElem?_set_ne e] at hz
        have h3 := (hc i y z hy hz).mono (w' := w) (ρ' := ρ1) .refl hn _ hl
        rwa [ho i z hz (fun e' => e e'.symm)] at h3

/-- An own row within what is handed back becomes a value with memory of its own. -/
theorem fin_closeC {nb : Nat} {R : AV → List OB → Prop} {s : AS} {r k n : Nat} {rows : List (List AV)} {x : AV} {f : Value → AV} (hx : Cl r k n x f) (hL : s.L[r]? = some (.vec k rows)) (hall : exactR rows = true) (hfx : r ∉ fx) (hn : n = rows.length)
    (h : ∀ S v, v.oneCell' = true → Fin fx nb R { s.kill r with L := (s.kill r).L.set r (.forest S [(v, .sl rows)]) } (f v)) : Fin fx nb R s x := by
  subst hn
  refine fun ρ a w u hr hu => ?_
  obtain ⟨v, hv, hk⟩ := hx.find hu
  obtain ⟨S, ρ1, h1, g1, hl⟩ := hr.close hL hall hfx hv
  have h2 := hk ρ1 g1.no fun q l hq hql => by
    rw [hl, List.getElem?_set_ne (fun e => by subst e; simp at hq)]; exact hql
  obtain ⟨x', L', hR, ρ2, h2, h3, g2⟩ := h S v (one_sound hv rfl) ρ1 a w u h1 h2
  exact ⟨x', L', hR, ρ2, h2, h3, g1.trans g2⟩

/-- Two heaps of parts become one. -/
theorem fin_join {nb : Nat} {R : AV → List OB → Prop} {s : AS} {x : AV} {r r2 : Nat} {S1 S2 : Nat → Prop} {l1 l2 : List (Value × AV)} (hne : r ≠ r2) (h1 : s.L[r]? = some (.forest S1 l1)) (h2 : s.L[r2]? = some (.forest S2 l2))
    (h : ∀ S, Fin fx nb R { s with L := (s.L.set r (.forest S (l1 ++ l2))).set r2 .dead } x) : Fin fx nb R s x := fun ρ a w u hr hu => by
  have hlt : ∀ {q : Nat} {o : OB}, s.L[q]? = some o → q < ρ.l.length := fun {q o} ho => by rw [hr.hr.len]; exact (List.getElem?_eq_some_iff.1 ho).1
  have f1 := (hr.hr.ent r _ _ h1 (List.getElem?_eq_getElem (hlt h1))).2
  have f2 := (hr.hr.ent r2 _ _ h2 (List.getElem?_eq_getElem (hlt h2))).2
  have hd : ∀ b, S1 b → S2 b → False := fun b hb hb' => hne (hr.hr.t.dis _ _ _ _ _ _ b h1 h2 hb hb')
  exact h (fun b => S1 b ∨ S2 b) ρ a w u (hr.refor (hr.hr.join hne h1 h2 (fun _ h => h) (f1.append f2 hd))) hu

/-- Parts without memory. -/
theorem fin_pushf {nb : Nat} {R : AV → List OB → Prop} {s : AS} {x : AV} (items : List (Value × AV)) (hi : ∀ w, Forest w (fun _ => False) items) (h : Fin fx nb R (s.push (.forest (fun _ => False) items)) x) : Fin fx nb R s x := fun ρ a w u hr hu => by
  obtain ⟨ρ1, h1, g0⟩ := wk_noforest (fx := fx ++ List.range ρ.l.length) (s := s) ρ a w hr
  have g1 : St fx ρ w ρ1 w := ⟨g0.fr, g0.sub, fun r hr => g0.fix r (List.mem_append_left _ hr), g0.x⟩
  have hk : s.L.length < ρ1.l.length := by rw [h1.hr.len]; simp [AS.push]
  have get : ∀ {q : Nat} {o : OB}, (s.push (.forest (fun _ => False) items)).L[q]? = some o → (q < s.L.length ∧ (s.push (.forest (fun _ => False) [])).L[q]? = some o) ∨ (q = s.L.length ∧ o = .forest (fun _ => False) items) := fun {q o} ho => by
    simp only [AS.push] at ho ⊢
    by_cases hq : q < s.L.length
    · rw [List.getElem?_append_left hq] at ho ⊢; exact .inl ⟨hq, ho⟩
    · rw [List.getElem?_append_right (by omega)] at ho
      cases hk : q - s.L.length with
      | zero => rw [hk] at ho; simp at ho; exact .inr ⟨by omega, ho.symm⟩
      | succ k => rw [hk] at ho; simp at ho
  have hlast : (s.push (.forest (fun _ => False) [])).L[s.L.length]? = some (.forest (fun _ => False) []) := by simp [AS.push]
  have hh : HR w ρ1 (s.push (.forest (fun _ => False) items)).L := h1.hr.refor (by simp [AS.push]) (fun q o ho => by
      rcases get ho with ⟨_, h⟩ | ⟨rfl, rfl⟩
      · exact .inl h
      · exact .inr (.inr ⟨_, _, rfl⟩)) (fun q S l ho => by
      rcases get ho with ⟨_, h⟩ | ⟨rfl, h⟩
      · have hlt : q < ρ1.l.length := by rw [h1.hr.len]; exact (List.getElem?_eq_some_iff.1 h).1
        exact ⟨(h1.hr.ent q _ _ h (List.getElem?_eq_getElem hlt)).2, fun b hb => h1.hr.t.sub _ _ _ b h hb, .inr ⟨_, _, h⟩⟩
      · cases h; exact ⟨hi w, fun _ h => h.elim, .inr ⟨_, _, hlast⟩⟩) (fun q q' S S' l l' b ho ho' hb hb' => by
      rcases get ho with ⟨_, h⟩ | ⟨rfl, h⟩
      · rcases get ho' with ⟨_, h'⟩ | ⟨rfl, h'⟩
        · exact h1.hr.t.dis _ _ _ _ _ _ b h h' hb hb'
        · cases h'; exact hb'.elim
      · cases h; exact hb.elim)
  have hu1 : VR w ρ1 u x := by
    have := hu.mono (w' := w) (ρ' := ρ1) .refl g1.no (fun _ => true) (fun r l _ hl => g0.fix r (List.mem_append_right _ (List.mem_range.2 (List.getElem?_eq_some_iff.1 hl).1)) l hl)
    rwa [AV.filt_true] at this
  obtain ⟨x', L', hR, ρ2, h2, h3, g2⟩ := h ρ1 a w u ⟨h1.dfr, h1.size, h1.tm, hh⟩ hu1
  exact ⟨x', L', hR, ρ2, h2, h3, g1.trans g2⟩
theorem kill_forest {s : AS} {r q : Nat} {S : Nat → Prop} {l : List (Value × AV)} (h : s.L[q]? = some (.forest S l)) : (s.kill r).L[q]? = some (.forest S l) := by
  simp only [AS.kill, List.getElem?_map, h]; rfl

/-- A plan whose parts have memory of their own. -/
theorem fin_two {R : AV → List OB → Prop} {s : AS} {r rx ry : Nat} {op at_ : Int} {x y : Plan} {vx vy : Value} {Sx Sy : Nat → Prop} (h1 : r ≠ rx) (h2 : r ≠ ry) (h3 : rx ≠ ry) (hL : s.L[r]? = some (.vec 5 [x.csV vx, y.csV vy]))
    (hx : s.L[rx]? = some (.forest Sx [(vx, .sl (x.ks.map Plan.cs))])) (hy : s.L[ry]? = some (.forest Sy [(vy, .sl (y.ks.map Plan.cs))]))
    (hR : ∀ S v, v.oneCell' = true → R (.agg ((Plan.mk op at_ 0 false [x, y]).csV v)) [.forest S [(v, .sl ([x, y].map Plan.cs))]]) :
    Fin [] 0 R s (.agg [.val (.int .i64 op), .val (.int .i64 at_), .val (.int .i64 0), .val (.bool false), .os r 5 0 2]) := by
  have hr := (List.getElem?_eq_some_iff.1 hL).1
  have hrx := (List.getElem?_eq_some_iff.1 hx).1
  have hry := (List.getElem?_eq_some_iff.1 hy).1
  have hlen : (s.kill r).L.length = s.L.length := by simp [AS.kill]
  refine fin_closeC (.agg _ 4 _ _ rfl .here fun i y hy hi => ?_) hL rfl (by simp) rfl fun S0 v hv => ?_
  · match i, hy with
    | 0, hy => simp at hy; subst hy; rfl
    | 1, hy => simp at hy; subst hy; rfl
    | 2, hy => simp at hy; subst hy; rfl
    | 3, hy => simp at hy; subst hy; rfl
    | 4, _ => exact absurd rfl hi
    | i + 5, hy => simp at hy
  simp only [List.set_cons_succ, List.set_cons_zero]
  have e1 : ((s.kill r).L.set r (OB.forest S0 [(v, .sl [x.csV vx, y.csV vy])]))[rx]? = some (.forest Sx [(vx, .sl (x.ks.map Plan.cs))]) := by rw [List.getElem?_set_ne h1]; exact kill_forest hx
  have e2 : ((s.kill r).L.set r (OB.forest S0 [(v, .sl [x.csV vx, y.csV vy])]))[ry]? = some (.forest Sy [(vy, .sl (y.ks.map Plan.cs))]) := by rw [List.getElem?_set_ne h2]; exact kill_forest hy
  refine fin_join h3 e1 e2 fun S1 => ?_
  have er : rowsK 4 ([x, y].map Plan.cs) [vx, vy] = [x.csV vx, y.csV vy] := by simp [rowsK, Plan.set4]
  have ei : itemsK 4 ([x, y].map Plan.cs) [vx, vy] = [(vx, .sl (x.ks.map Plan.cs))] ++ [(vy, .sl (y.ks.map Plan.cs))] := by simp [itemsK, Plan.cs_eq]
  refine fin_graft (r := r) (r2 := rx) (j0 := 4) (es := [x, y].map Plan.cs) (kv := [vx, vy]) (v := v) (S1 := S0) (S2 := S1) h1 ?_ ?_ rfl fun S2 => ?_
  · simp only []
    rw [er, List.getElem?_set_ne (Ne.symm h2), List.getElem?_set_ne (Ne.symm h1), List.getElem?_set_self (by omega)]
  · simp only []
    rw [ei, List.getElem?_set_ne (Ne.symm h3), List.getElem?_set_self (by simp; omega)]
  refine fin_ks [r] (.agg ((Plan.mk op at_ 0 false [x, y]).csV v)) [.forest S2 [(v, .sl ([x, y].map Plan.cs))]] (hR S2 v hv) rfl ⟨?_, trivial⟩ (by simp) (by simp) (by simp)
  simp only []
  rw [List.getElem?_set_ne (Ne.symm h1), List.getElem?_set_self (by simp; omega)]
  rfl

end

end Go.Pc
