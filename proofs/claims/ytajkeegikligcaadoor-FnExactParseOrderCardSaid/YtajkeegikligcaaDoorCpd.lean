/- Texts of plans, exactly: the law, in worlds in which the library's table is laid. -/
import Derived.Test.YtajkeegikligcaaDoorCpb
import Derived.Test.YtajkeegikligcaaDoorLa
set_option linter.unusedSimpArgs false
set_option linter.unusedVariables false
namespace Go.Pc
open Go Go.Proofs Go.Lib

section
variable {P : Program} {T : TypeId → Ty} {fx bl : List Nat}

/-- As awp, in worlds of a kind. -/
def awpK (P : Program) (fx : List Nat) (K : Env → World → Prop) (c : Code) (Q : Exit → AS → Prop) (s : AS) : Prop :=
  ∀ (ρ : Env) (a : Act) (w : World), Rel ρ s a w → K ρ w → c.wp P (fun e a' w' => ∃ s' ρ', Q e s' ∧ Rel ρ' s' a' w' ∧ St fx ρ w ρ' w') a w
theorem awpK_of {K : Env → World → Prop} {c : Code} {Q : Exit → AS → Prop} {s : AS} (h : awp P fx c Q s) : awpK P fx K c Q s := fun ρ a w hr _ => h ρ a w hr
def KThen (P : Program) (fx : List Nat) (K : Env → World → Prop) (y : Code) (Q : Exit → AS → Prop) (e : Exit) (s : AS) : Prop :=
  match e with
  | .normal => awpK P fx K y Q s
  | .exit i => Q (.exit i) s
  | .goto l => Q (.goto l) s
  | .ret => Q .ret s
  | .panic c => Q (.panic c) s
  | .outgrown => Q .outgrown s
theorem kthen_n {K : Env → World → Prop} {y : Code} {Q : Exit → AS → Prop} {s : AS} (h : awpK P fx K y Q s) : KThen P fx K y Q .normal s := h
theorem kthen_ret {K : Env → World → Prop} {y : Code} {Q : Exit → AS → Prop} {s : AS} : KThen P fx K y Q .ret s = Q .ret s := nrf rfl

/-- A fact on worlds that own memory does not touch. -/
def Stays (K : Env → World → Prop) : Prop := ∀ (fx : List Nat) (ρ : Env) (w : World) (ρ' : Env) (w' : World), K ρ w → St fx ρ w ρ' w' → K ρ' w'

theorem awpK_seqK {K : Env → World → Prop} (hK : Stays K) {x y : Code} {Q : Exit → AS → Prop} {s : AS} (h : awpK P fx K x (KThen P fx K y Q) s) : awpK P fx K (.seq x y) Q s := fun ρ a w hr hk => by
  refine wp_seq (wp_mono (h ρ a w hr hk) fun e a' w' ⟨s', ρ', h1, h2, h3⟩ => ?_)
  cases e with
  | normal => exact wp_mono (h1 ρ' a' w' h2 (hK _ _ _ _ _ hk h3)) fun e a'' w'' ⟨s'', ρ'', g1, g2, g3⟩ => ⟨s'', ρ'', g1, g2, h3.trans g3⟩
  | _ => exact ⟨s', ρ', h1, h2, h3⟩
theorem awpK_seq {K : Env → World → Prop} (hK : Stays K) {x y : Code} {Q : Exit → AS → Prop} {s : AS} (h : awp P fx x (KThen P fx K y Q) s) : awpK P fx K (.seq x y) Q s := awpK_seqK hK (awpK_of h)

/-- A call in worlds of a kind. -/
def KCall (P : Program) (fx : List Nat) (K : Env → World → Prop) (f : AV) (args : List AV) (s : AS) (K' : AV → AS → Prop) : Prop :=
  ∀ (ρ : Env) (a : Act) (w : World) (vf : Value) (vs : Array Value), Rel ρ s a w → K ρ w → VR w ρ vf f → vs.size = args.length → (∀ (i : Nat) v x, vs[i]? = some v → args[i]? = some x → VR w ρ v x) →
    Out P (fun v w' => ∃ r s' ρ', K' r s' ∧ Rel ρ' s' a w' ∧ VR w' ρ' v r ∧ St fx ρ w ρ' w') ((do let d ← Deferred.ofValue vf vs; invoke d.target d.args : Sem Next).run P w)

theorem sxOps_then (hT : TTOk P T) (all l2 : List Oper) {C : AS → Prop} {Φ : Exit → Act → World → Prop} {ρ0 : Env} {w0 : World} (hC : ∀ s ρ a w, C s → Rel ρ s a w → St fx ρ0 w0 ρ w → wpList P all.toArray Φ l2 a w) : ∀ (l : List Oper) (s : AS) (ρ : Env) (a : Act) (w : World), sxOps P T fx bl all l s C → Rel ρ s a w → St fx ρ0 w0 ρ w →
    wpList P all.toArray Φ (l ++ l2) a w
  | [], s, ρ, a, w, h, hr, hst => hC s ρ a w h hr hst
  | o :: rest, s, ρ, a, w, h, hr, hst => by
    have go : aOp P T fx bl o s (fun s' => sxOps P T fx bl all rest s' C) → o.wp P a w (wpList P all.toArray Φ (rest ++ l2)) Φ := fun ha =>
      wp_of_out ((aOp_sound hT ha ρ a w hr).mono fun v w' ⟨s', ρ', h1, h2, h3⟩ => sxOps_then hT all l2 hC rest s' ρ' _ w' h1 h2 (hst.trans h3))
    rw [List.cons_append]
    unfold wpList
    simp only [sxOps] at h
    cases hg : o.guard with
    | none =>
      rw [hg] at h
      rw [if_pos (by simp [Region.wanted, hg])]
      exact .inl (go h)
    | some gw =>
      obtain ⟨g, want⟩ := gw
      rw [hg] at h
      simp only at h
      split at h
      · rename_i b hb
        have hy := gBool_sound hb hr
        by_cases hbw : b = want
        · rw [if_pos (by simp [Region.wanted, hg, hy, hbw])]
          exact .inl (go (h.1 hbw))
        · rw [if_neg (by simp [Region.wanted, hg, hy, hbw])]
          exact sxOps_then hT all l2 hC rest _ ρ _ w (h.2 (by cases b <;> cases want <;> simp_all)) (hr.put o.dst (.pr (.val _))) hst
      · rename_i hb
        have hy := gBool_sound hb hr
        rw [if_neg (by simp [Region.wanted, hg, hy])]
        exact sxOps_then hT all l2 hC rest _ ρ _ w h (hr.put o.dst (.pr (.val _))) hst
      · cases h

/-- A region in text order with such a call in it. -/
def KAt (P : Program) (T : TypeId → Ty) (fx bl : List Nat) (K : Env → World → Prop) (ops l2 : List Oper) (Q : Exit → AS → Prop) (s : AS) : Prop :=
  ∃ (o : Oper) (post : List Oper) (f : Operand) (args : Array Operand) (ts : Array TypeId), l2 = o :: post ∧ o.guard = none ∧ o.op = .call { callee := .value f, args := args, argTypes := ts } ∧
    KCall P fx K (s.ev f) (args.toList.map s.ev) s (fun r s' => sxOps P T fx bl ops post (s'.put o.dst r) (Q .normal))
theorem awpK_region {K : Env → World → Prop} (hK : Stays K) (hT : TTOk P T) (n : Nat) {id : Nat} {ops : List Oper} {Q : Exit → AS → Prop} {s : AS} (h : sxOps P T fx bl ops (ops.take n) s (KAt P T fx bl K ops (ops.drop n) Q)) : awpK P fx K (.region id ops.toArray false) Q s := fun ρ0 a0 w0 hr0 hk0 => by
  refine wp_mono (wp_region_list (id := id) (ops := ops.toArray) (Q := fun e a' w' => ∃ s' ρ', (match e with | .normal => Q .normal s' | _ => False) ∧ Rel ρ' s' a' w' ∧ St fx ρ0 w0 ρ' w') ?_) fun e a' w' ⟨s', ρ', h1, h2⟩ => ?_
  · have := sxOps_then hT ops (ops.drop n) (Φ := fun e a' w' => ∃ s' ρ', (match e with | .normal => Q .normal s' | _ => False) ∧ Rel ρ' s' a' w' ∧ St fx ρ0 w0 ρ' w') (ρ0 := ρ0) (w0 := w0) (fun s ρ a w hc hr hst => by
      obtain ⟨o, post, f, args, ts, e1, hg, ho, hcall⟩ := hc
      rw [e1]
      unfold wpList
      rw [if_pos (by simp [Region.wanted, hg])]
      refine .inl (wp_of_out ?_)
      have := hcall ρ a w (a.eval f) (args.map a.eval) hr (hK _ _ _ _ _ hk0 hst) (hr.ev f) (by simp) (fun i v x hv hx' => by
        rw [Array.getElem?_map] at hv
        rw [List.getElem?_map] at hx'
        cases hq : args[i]? with
        | none => simp [hq] at hv
        | some q =>
          have hq' : args.toList[i]? = some q := by simpa using hq
          simp [hq] at hv
          simp [hq'] at hx'
          subst hv; subst hx'
          exact hr.ev q)
      simp only [execOp, ho, resolve]
      exact this.mono fun v w' ⟨r, s', ρ', h2, h3, h4, h5⟩ => sxOps_sound hT ops post _ ρ' _ w' h2 (h3.put o.dst h4) (hst.trans h5)) (ops.take n) s ρ0 a0 w0 h hr0 (St.refl (fx := fx))
    rw [List.take_append_drop] at this
    simpa using this
  · cases e <;> first | exact ⟨s', ρ', h1, h2⟩ | cases h1

theorem callsK_intro {K : Env → World → Prop} (hT : TTOk P T) {f : FuncId} {fn : Func} {c : Code} {args : List AV} {L0 : List OB} {R : AV → List OB → Prop} (hf : P.funcs[f]? = some fn) (hb : fn.body = some c) (n : Nat) (hn : fn.ntmps - args.length = n) {rv : List ResultVar} (hrv : fn.results = rv.toArray)
    (tm0 : List AV) (h0 : args ++ List.replicate n .any = tm0) (h : awpK P fx K c (Ret T fx rv L0.length R) ⟨tm0, L0⟩) (ρ : Env) (w : World) (vs : Array Value) (hk : K ρ w) (hhr : HR w ρ L0) (hvl : vs.size = args.length) (hv : ∀ (i : Nat) v x, vs[i]? = some v → args[i]? = some x → VR w ρ v x) :
    Calls P f vs w (fun e w' => ∃ v res L' ρ', e = .returned v ∧ R res L' ∧ L0.length ≤ L'.length ∧ VR w' ρ' v res ∧ HR w' ρ' L' ∧ St fx ρ w ρ' w') := by
  subst h0
  refine calls_of_wp hf hb ?_
  have hr : Rel ρ ⟨args ++ List.replicate n .any, L0⟩ { tmps := vs ++ Array.replicate (fn.ntmps - vs.size) undef, defers := [] } w := by
    refine ⟨rfl, by simp [hvl, hn], fun i v x h1 h2 => ?_, hhr⟩
    by_cases hi : i < args.length
    · simp only [] at h1 h2
      rw [List.getElem?_append_left hi] at h2
      rw [Array.getElem?_append_left (by omega)] at h1
      exact hv i v x h1 h2
    · simp only [] at h2
      rw [List.getElem?_append_right (by omega), List.getElem?_replicate] at h2
      split at h2
      · cases h2; exact .pr (.any _)
      · cases h2
  refine wp_mono (h ρ _ w hr hk) fun e a' w' ⟨s', ρ', h1, h2, h3⟩ => ?_
  have fin : rvs T s' rv (fun xs => Fin fx L0.length R s' (resOf xs)) → a'.defers = [] ∧ ∃ v, (results fn a'.tmps).run P w' = .ok v w' ∧ ∃ v' res L' ρ'', Ending.returned v = .returned v' ∧ R res L' ∧ L0.length ≤ L'.length ∧ VR w' ρ'' v' res ∧ HR w' ρ'' L' ∧ St fx ρ w ρ'' w' := fun hh => by
    obtain ⟨xs, us, g1, g2, g3, g4⟩ := rvs_sound hT h2 rv _ hh
    have hres : ∃ v, (results fn a'.tmps).run P w' = .ok v w' ∧ VR w' ρ' v (resOf xs) := by
      refine ⟨if h : us.toArray.size = 1 then us.toArray[0] else .tuple us.toArray, ?_, ?_⟩
      · rw [results_eq, hrv]
        simp only [Sem.run_bind, List.mapM_toArray, Sem.run_map, g2, Result.andThen_ok, Sem.run_pure]
      · by_cases h1 : us.length = 1
        · rw [dif_pos (by simpa using h1)]
          obtain ⟨u, rfl⟩ := List.length_eq_one_iff.1 h1
          obtain ⟨x, rfl⟩ := List.length_eq_one_iff.1 (g3.symm.trans h1)
          exact g4 0 u x rfl rfl
        · rw [dif_neg (by simpa using h1)]
          have : resOf xs = .tup xs := by
            unfold resOf
            split
            · rename_i x; simp at g3; exact absurd g3 h1
            · rfl
          rw [this]
          exact .tup _ _ (by simp [g3]) fun i v x hv hx => g4 i v x (by simpa using hv) hx
    obtain ⟨v, hv1, hv2⟩ := hres
    obtain ⟨x', L', ⟨q1, q2⟩, ρ'', p1, p2, p3⟩ := g1 ρ' a' w' v h2 hv2
    exact ⟨h2.dfr, v, hv1, v, x', L', ρ'', rfl, q1, q2, p1, p2, h3.trans p3⟩
  cases e <;> first | exact fin h1 | exact h1.elim
end
theorem DCpd0 : type_of% @kthen_ret := @kthen_ret

/-- The library's table of powers lies there, and is not the call's own. -/
def KTab (ρ : Env) (w : World) : Prop := TabIs Tryd.prog w "internal/strconv.uint64pow10" .u64 pow10Tab ∧ ∀ g, Tryd.prog.globalNamed "internal/strconv.uint64pow10" = some g → ¬ own ρ g ∧ g < w.heap.size
theorem KTab.stays : Stays KTab := fun fx ρ w ρ' w' ⟨h1, h2⟩ hst => by
  refine ⟨?_, fun g hg => ⟨fun ho => (h2 g hg).1 (hst.sub g (h2 g hg).2 ho), Nat.lt_of_lt_of_le (h2 g hg).2 hst.fr.le⟩⟩
  unfold TabIs World.var? at *
  cases hg : Tryd.prog.globalNamed "internal/strconv.uint64pow10" with
  | none => simp [hg] at h1
  | some g =>
    simp only [hg, Option.bind_some] at h1 ⊢
    rw [hst.fr.same g (h2 g hg).2 (h2 g hg).1]
    exact h1

end Go.Pc
