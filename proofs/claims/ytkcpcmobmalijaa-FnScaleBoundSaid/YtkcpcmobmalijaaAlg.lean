/- The abstract logic: regions that draw their order, where guards are known. -/
import Derived.Test.YtkcpcmobmalijaaAlh
set_option linter.unusedSimpArgs false
set_option linter.unusedVariables false
namespace Go.Pc
open Go

section
variable {P : Program}

theorem wp_put {o : Oper} {a : Act} {w : World} {K K' : Act → World → Prop} {Q : Exit → Act → World → Prop} (h : ∀ a' w' v, a'.tmps = (a.put o.dst v).tmps → K a' w' → K' a' w') (hh : o.wp P a w K Q) : o.wp P a w K' Q := by
  unfold Oper.wp at *
  generalize (execOp a.eval o).run P w = r at *
  cases r with
  | ok n w' =>
    cases n <;> simp only [Oper.upon] at hh ⊢ <;>
      first
        | exact h _ _ _ rfl hh
        | exact h _ _ undef (by unfold Act.put; cases o.dst <;> rfl) hh
        | exact Calls.mono hh (fun e w'' he => by cases e <;> first | exact h _ _ _ rfl he | exact he)
        | exact Rows.mono hh (fun _ _ he => h _ _ _ rfl he)
  | halt x w' => cases x <;> simp only [Oper.upon] at hh ⊢ <;> exact hh

theorem wp_guard {o : Oper} {g : Option (Nat × Bool)} {a : Act} {w : World} {K : Act → World → Prop} {Q : Exit → Act → World → Prop} (h : ({ o with guard := g } : Oper).wp P a w K Q) : o.wp P a w K Q := h
theorem asks_guard {o : Oper} {g : Option (Nat × Bool)} {a : Act} {w : World} (h : ({ o with guard := g } : Oper).asks P a w) : o.asks P a w := h
theorem move_asks {x : Operand} {dst : Option Tmp} {ty : TypeId} {pos : String} {after : Array Edge} {g : Option (Nat × Bool)} {a : Act} {w : World} (h : ({ dst := dst, op := .move x, type := ty, pos := pos, after := after, guard := g } : Oper).asks P a w) : False := by
  obtain ⟨h, _⟩ := h
  simp [execOp] at h
  exact absurd h (by simp [Sem.events, pure, Sem.pure, Sem.runT])
theorem wp_move {x : Operand} {dst : Option Tmp} {ty : TypeId} {pos : String} {after : Array Edge} {g : Option (Nat × Bool)} {a : Act} {w : World} {K : Act → World → Prop} {Q : Exit → Act → World → Prop} (h : K (a.put dst (a.eval x)) w) : ({ dst := dst, op := .move x, type := ty, pos := pos, after := after, guard := g } : Oper).wp P a w K Q := by
  unfold Oper.wp
  simpa [execOp, Oper.upon] using h
theorem move_wp {x : Operand} {dst : Option Tmp} {ty : TypeId} {pos : String} {after : Array Edge} {g : Option (Nat × Bool)} {a : Act} {w : World} {K : Act → World → Prop} {Q : Exit → Act → World → Prop} (h : ({ dst := dst, op := .move x, type := ty, pos := pos, after := after, guard := g } : Oper).wp P a w K Q) : K (a.put dst (a.eval x)) w := by
  unfold Oper.wp at h
  simpa [execOp, Oper.upon] using h

/-- The guards that hang on a known bool: the operation with the guard taken off, or put off. -/
def ungO (kn : List (Nat × Tmp)) (b : Bool) (o : Oper) : Oper :=
  match o.guard with
  | none => o
  | some (g, want) => if kn.any (fun p => p.1 == g) then (if b = want then { o with guard := none } else { o with op := .move (.const undef), guard := none }) else o
def ungL (kn : List (Nat × Tmp)) (b : Bool) (ops : List Oper) : List Oper := ops.map (ungO kn b)

/-- The known temporaries: moves of one that nothing in the region writes, or of a known one before. -/
def knB (t0 : Tmp) (ops : List Oper) (kn : List (Nat × Tmp)) : Bool :=
  (ops.all fun o => o.dst != some t0) &&
  (kn.all fun p => match ops[p.1]? with
    | some o => o.dst == some p.2 && o.guard == none && (match o.op with
      | .move (.tmp s) => s == t0 || kn.any (fun q => q.2 == s && o.after.any (fun e => e.on == q.1 && Region.binds .any e))
      | _ => false)
    | none => false) &&
  (kn.all fun p => (List.range ops.length).all fun k => k == p.1 || (match ops[k]? with | some o => o.dst != some p.2 | none => true)) &&
  (ops.all fun o => match o.guard with
    | none => true
    | some (g, _) => kn.any (fun q => q.1 == g) && o.after.any (fun e => e.on == g && Region.binds .any e))

def KnI (t0 : Tmp) (b : Bool) (kn : List (Nat × Tmp)) (listed : Array Bool) (a : Act) : Prop :=
  a.tmps[t0]? = some (.bool b) ∧ ∀ p ∈ kn, listed.getD p.1 false = true → a.tmps[p.2]? = some (.bool b)

theorem kput_ne {a : Act} {d : Option Tmp} {v : Value} {t : Tmp} (h : d ≠ some t) : (a.put d v).tmps[t]? = a.tmps[t]? := by
  cases d with
  | none => rfl
  | some d =>
    simp only [Act.put]
    exact Array.getElem?_setIfInBounds_ne fun e => h (by rw [e])
theorem kput_eq {a : Act} {d : Tmp} {v : Value} {u : Value} (h : a.tmps[d]? = some u ∨ d < a.tmps.size) : (a.put (some d) v).tmps[d]? = some v := by
  have : d < a.tmps.size := by
    rcases h with h | h
    · exact (Array.getElem?_eq_some_iff.1 h).1
    · exact h
  simp only [Act.put]
  exact Array.getElem?_setIfInBounds_self_of_lt this

theorem any_ung {Q : Exit → Act → World → Prop} {t0 : Tmp} {b : Bool} {kn : List (Nat × Tmp)} {ops : List Oper} (hB : knB t0 ops kn = true) : ∀ (fuel : Nat) (listed : Array Bool) (a : Act) (w : World), (∀ p ∈ kn, p.2 < a.tmps.size) → KnI t0 b kn listed a →
    wpAny P .any (ungL kn b ops).toArray Q fuel listed a w → wpAny P .any ops.toArray Q fuel listed a w := by
  simp only [knB, Bool.and_eq_true] at hB
  obtain ⟨⟨⟨h1, h2⟩, h3⟩, h4⟩ := hB
  have hrd : ∀ listed, Region.ready .any (ungL kn b ops).toArray listed = Region.ready .any ops.toArray listed := fun listed => by
    unfold Region.ready
    have hs : (ungL kn b ops).toArray.size = ops.toArray.size := by simp [ungL]
    rw [hs]
    refine List.filter_congr fun i _ => ?_
    have ha : ∀ o : Oper, (ungO kn b o).after = o.after := fun o => by
      unfold ungO
      split
      · rfl
      · split
        · split <;> rfl
        · rfl
    have : ((ungL kn b ops).toArray[i]?).map (·.after.all fun e => !Region.binds .any e || listed.getD e.on false) = (ops.toArray[i]?).map (·.after.all fun e => !Region.binds .any e || listed.getD e.on false) := by
      simp only [ungL, List.getElem?_toArray, List.getElem?_map, Option.map_map]
      cases ops[i]? with
      | none => rfl
      | some o => simp [ha]
    rw [this]
  intro fuel
  induction fuel with
  | zero => intro listed a w _ _ h; exact ⟨by rw [← hrd]; exact h.1, h.2⟩
  | succ fuel ih =>
    intro listed a w hsz hk h
    refine ⟨fun hr => h.1 (by rw [hrd]; exact hr), fun i hi => ?_⟩
    have hw := h.2 i (by rw [hrd]; exact hi)
    obtain ⟨hun, o, ho, hedge⟩ := mem_ready.1 hi
    have ho' : ops[i]? = some o := by simpa using ho
    have hil : i < ops.length := (List.getElem?_eq_some_iff.1 ho').1
    have hmem := List.mem_of_getElem? ho'
    have hu : (ungL kn b ops).toArray[i]? = some (ungO kn b o) := by simp [ungL, ho']
    have hdst : (ungO kn b o).dst = o.dst := by
      unfold ungO
      split
      · rfl
      · split
        · split <;> rfl
        · rfl
    have hgn : (ungO kn b o).guard = none := by
      have := List.all_eq_true.1 h4 o hmem
      unfold ungO
      split
      · assumption
      · rename_i g want hg
        rw [hg] at this
        simp only [Bool.and_eq_true] at this
        obtain ⟨q, q1, q2⟩ := List.any_eq_true.1 this.1
        rw [if_pos (List.any_eq_true.2 ⟨q, q1, q2⟩)]
        split <;> rfl
    -- what is known goes on where the operation is none of the known ones
    have next : ∀ (a' : Act) (w' : World) (v : Value), ((∃ p ∈ kn, p.1 = i) → v = .bool b) → a'.tmps = (a.put o.dst v).tmps → wpAny P .any (ungL kn b ops).toArray Q fuel (listed.setIfInBounds i true) a' w' → wpAny P .any ops.toArray Q fuel (listed.setIfInBounds i true) a' w' := fun a' w' v hv ha hh => by
      have hsame : ∀ t : Nat, a'.tmps[t]? = (a.put o.dst v).tmps[t]? := fun t => by rw [ha]
      refine ih _ a' w' (fun p hp => ?_) ⟨?_, fun p hp hl => ?_⟩ hh
      · rw [ha]
        have : (a.put o.dst v).tmps.size = a.tmps.size := by cases o.dst <;> simp [Act.put]
        rw [this]; exact hsz p hp
      · rw [hsame, kput_ne (by have := List.all_eq_true.1 h1 o hmem; simpa using this)]; exact hk.1
      · have hp2 := List.all_eq_true.1 h2 p hp
        by_cases hpi : p.1 = i
        · rw [hpi, ho'] at hp2
          simp only [Bool.and_eq_true, beq_iff_eq] at hp2
          rw [hsame, hp2.1.1, kput_eq (u := v) (.inr (hsz p hp)), hv ⟨p, hp, hpi⟩]
        · have hpd := List.all_eq_true.1 (List.all_eq_true.1 h3 p hp) i (List.mem_range.2 hil)
          rw [ho'] at hpd
          simp only [Bool.or_eq_true, beq_iff_eq, bne_iff_ne] at hpd
          have hpd : o.dst ≠ some p.2 := by
            rcases hpd with e | e
            · exact absurd e.symm hpi
            · exact e
          rw [hsame, kput_ne hpd]
          exact hk.2 p hp (set_inv hl hpi)
    unfold wpOp at hw ⊢
    rw [hu] at hw
    rw [ho]
    simp only [] at hw ⊢
    rw [if_pos (by simp [Region.wanted, hgn])] at hw
    by_cases hkn : ∃ p ∈ kn, p.1 = i
    · -- a known one
      obtain ⟨p, hp, hpi⟩ := hkn
      have hp2 := List.all_eq_true.1 h2 p hp
      rw [hpi, ho'] at hp2
      simp only [Bool.and_eq_true, beq_iff_eq] at hp2
      obtain ⟨⟨hd, hg⟩, hop⟩ := hp2
      have e : ungO kn b o = o := by unfold ungO; rw [hg]
      rw [e] at hw
      rw [if_pos (by simp [Region.wanted, hg])]
      refine hw.imp (fun hw => ?_) id
      obtain ⟨dst, op, ty, pos, after, guard⟩ := o
      simp only at hop hd hg
      cases op with
      | move x =>
        cases x with
        | tmp s =>
          have hs : a.tmps[s]? = some (.bool b) := by
            simp only [Bool.or_eq_true, beq_iff_eq] at hop
            rcases hop with rfl | hop
            · exact hk.1
            · obtain ⟨q, q1, q2⟩ := List.any_eq_true.1 hop
              simp only [Bool.and_eq_true, beq_iff_eq] at q2
              obtain ⟨rfl, q2⟩ := q2
              obtain ⟨e, he, q3⟩ := Array.any_eq_true'.1 q2
              simp only [Bool.and_eq_true, beq_iff_eq] at q3
              exact hk.2 q q1 (by rw [← q3.1]; exact hedge e he q3.2)
          have hev : a.eval (.tmp s) = .bool b := by
            simp only [Act.eval, Array.getD_eq_getD_getElem?]
            rw [hs]; rfl
          have hh := move_wp hw
          rw [hev] at hh
          refine wp_move ?_
          rw [hev]
          exact next _ _ (.bool b) (fun _ => rfl) rfl hh
        | _ => simp at hop
      | _ => simp at hop
    · have nx := fun a' w' v => next a' w' v (fun h => absurd h hkn)
      cases hg : o.guard with
      | none =>
        have e : ungO kn b o = o := by unfold ungO; rw [hg]
        rw [e] at hw
        rw [if_pos (by simp [Region.wanted, hg])]
        exact hw.imp (wp_put fun a' w' v ha hh => nx a' w' v ha hh) id
      | some gw =>
        obtain ⟨g, want⟩ := gw
        have h4o := List.all_eq_true.1 h4 o hmem
        rw [hg] at h4o
        simp only [Bool.and_eq_true] at h4o
        obtain ⟨h5, h6⟩ := h4o
        obtain ⟨q, q1, q2⟩ := List.any_eq_true.1 h5
        obtain ⟨e, he, q3⟩ := Array.any_eq_true'.1 h6
        simp only [beq_iff_eq] at q2
        simp only [Bool.and_eq_true, beq_iff_eq] at q3
        have hv := hk.2 q q1 (by rw [q2, ← q3.1]; exact hedge e he q3.2)
        have hqd := List.all_eq_true.1 h2 q q1
        have hy : yielded ops.toArray a.tmps g = some b := by
          rw [q2] at hqd
          cases hog : ops[g]? with
          | none => rw [hog] at hqd; cases hqd
          | some og =>
            rw [hog] at hqd
            simp only [Bool.and_eq_true, beq_iff_eq] at hqd
            simp [yielded, hog, hqd.1.1, hv]
        have hug : ungO kn b o = if b = want then { o with guard := none } else { o with op := .move (.const undef), guard := none } := by
          unfold ungO
          rw [hg]
          simp only []
          rw [if_pos h5]
        rw [hug] at hw
        by_cases hbw : b = want
        · rw [if_pos hbw] at hw
          rw [if_pos (by simp [Region.wanted, hg, hy, hbw])]
          exact hw.imp (fun hw => wp_put (fun a' w' v ha hh => nx a' w' v ha hh) (wp_guard hw)) fun hw => ⟨asks_guard hw.1, hw.2⟩
        · rw [if_neg hbw] at hw
          rw [if_neg (by simp [Region.wanted, hg, hy, hbw])]
          rcases hw with hw | hw
          · exact nx _ _ undef rfl (move_wp hw)
          · exact (move_asks hw.1).elim

/-- The rule for a region that draws its order, where the guards hang on a known bool. -/
theorem awp_floatU {T : TypeId → Ty} {fx bl : List Nat} (hT : TTOk P T) (hm : P.follows .mixedOrders = true) {id : Nat} {ops : List Oper} {Q : Exit → AS → Prop} {s : AS} (t0 : Tmp) (b : Bool) (kn : List (Nat × Tmp)) (hk : s.tm[t0]? = some (.val (.bool b))) (hkn : knB t0 ops kn = true) (hsz : (kn.all fun p => decide (p.2 < s.tm.length)) = true)
    (fx' fl fl0 : List Nat) (ch : List En) (fin : List (Nat × It)) (hB : floatG fx fx' (ungL kn b ops) fl fl0 ch fin = true) (hA : itOk T (pendE ch fin) = true)
    (h : sxF P T fx' (ungL kn b ops) fl0 ⟨s.tm.map (AV.filt (inR fx')), s.L⟩ (KG P T bl (ungL kn b ops) fin ch s (Q .normal))) : awp P fx (.region id ops.toArray true) Q s := fun ρ a w hr => by
  refine wp_region_any hm ?_
  have hs : (ungL kn b ops).toArray.size = ops.toArray.size := by simp [ungL]
  have H := any_floatG (fx := fx) (bl := bl) hT hm fx' fl fl0 ch fin hB hA h ρ a w hr
  rw [hs] at H
  have htl : t0 < a.tmps.size := by rw [hr.size]; exact (List.getElem?_eq_some_iff.1 hk).1
  have hg := Array.getElem?_eq_getElem htl
  refine any_ung hkn _ _ a _ (fun p hp => ?_) ⟨?_, fun p hp hl => ?_⟩ H
  · rw [hr.size]; exact of_decide_eq_true (List.all_eq_true.1 hsz p hp)
  · rw [hg, val_inv (hr.tm t0 _ _ hg hk)]
  · rw [getD_replicate_false] at hl; cases hl
end

theorem ungL_nil (kn : List (Nat × Tmp)) (b : Bool) : ungL kn b [] = [] := nrf rfl
theorem ungL_none (kn : List (Nat × Tmp)) (b : Bool) (dst : Option Tmp) (op : Op) (ty : TypeId) (pos : String) (after : Array Edge) (l : List Oper) : ungL kn b ({ dst := dst, op := op, type := ty, pos := pos, after := after, guard := none } :: l) = { dst := dst, op := op, type := ty, pos := pos, after := after, guard := none } :: ungL kn b l := nrf rfl
theorem ungL_some (kn : List (Nat × Tmp)) (b : Bool) (dst : Option Tmp) (op : Op) (ty : TypeId) (pos : String) (after : Array Edge) (g : Nat) (want : Bool) (l : List Oper) : ungL kn b ({ dst := dst, op := op, type := ty, pos := pos, after := after, guard := some (g, want) } :: l) =
    (if kn.any (fun p => p.1 == g) then (if b = want then { dst := dst, op := op, type := ty, pos := pos, after := after, guard := none } else { dst := dst, op := .move (.const undef), type := ty, pos := pos, after := after, guard := none }) else { dst := dst, op := op, type := ty, pos := pos, after := after, guard := some (g, want) }) :: ungL kn b l := nrf rfl
theorem ofV_undef : AV.ofV undef = .val undef := nrf rfl
theorem DAlg0 : type_of% @ofV_undef := @ofV_undef

end Go.Pc
