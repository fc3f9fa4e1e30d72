/- Drawn regions in worlds of a kind: the rule of XAlx once more. Printed by gen_kdraw.py. -/
import Derived.Test.YtajkeegikligcaaDoorCpd
set_option linter.unusedSimpArgs false
set_option linter.unusedVariables false
namespace Go.Pc
open Go Go.Proofs

section
variable {P : Program} {T : TypeId → Ty} {fx bl : List Nat}

/-- A quiet operation in worlds of a kind. -/
def QOKK (P : Program) (KK : Env → World → Prop) (o : Oper) (s : AS) (r : AV) : Prop :=
  ∀ (ρ : Env) (a : Act) (w : World), HR w ρ s.L → KK ρ w → (∀ x ∈ o.op.operands, VR w ρ (a.eval x) (s.ev x)) → Out P (fun v w' => VR w' ρ v r ∧ Grow w w') ((execOp a.eval o).run P w)
theorem QOK.k {KK : Env → World → Prop} {o : Oper} {s : AS} {r : AV} (h : QOK P o s r) : QOKK P KK o s r := fun ρ a w h1 _ h2 => h ρ a w h1 h2
/-- A quiet call in worlds of a kind. -/
def QCallK (P : Program) (KK : Env → World → Prop) (L : List OB) (f : AV) (args : List AV) (r : AV) : Prop :=
  ∀ (ρ : Env) (w : World) (vf : Value) (vs : Array Value), HR w ρ L → KK ρ w → VR w ρ vf f → vs.size = args.length → (∀ (i : Nat) v x, vs[i]? = some v → args[i]? = some x → VR w ρ v x) →
    Out P (fun v w' => VR w' ρ v r ∧ Grow w w') ((do let d ← Deferred.ofValue vf vs; invoke d.target d.args : Sem Next).run P w)

/-- One operation of the head, with what it yields: it runs and yields r, or its guard is shut. -/
def QFactK (P : Program) (KK : Env → World → Prop) (all : List Oper) (L : List OB) (o : Oper) (tm : List AV) (r : AV) : Prop :=
  ((o.guard = none ∨ ∃ g want, o.guard = some (g, want) ∧ gBool all ⟨tm, L⟩ g = some (some want)) ∧ QOKK P KK o ⟨tm, L⟩ r) ∨
  (r = .val undef ∧ ∃ g want y, o.guard = some (g, want) ∧ gBool all ⟨tm, L⟩ g = some y ∧ y ≠ some want)


inductive QRunK (P : Program) (KK : Env → World → Prop) (all : List Oper) (L : List OB) : List Oper → List AV → List AV → List AV → Prop
  | nil (tm) : QRunK P KK all L [] tm tm []
  | cons {o rest tm r tm' rs} (h : QFactK P KK all L o tm r) (h' : QRunK P KK all L rest (putTm tm o.dst r) tm' rs) : QRunK P KK all L (o :: rest) tm tm' (r :: rs)


/-- The run's facts, operation by operation. -/
theorem qrunK_facts {KK : Env → World → Prop} {all : List Oper} {L : List OB} : ∀ (l : List Oper) (tm tm' : List AV) (rs : List AV), QRunK P KK all L l tm tm' rs → ∀ (ops : List Oper) (rs0 : List AV) (tm0 : List AV) (k : Nat), tm = tmOf ops (rs0 ++ rs) tm0 (fun _ => true) k → rs0.length = k →
    (∀ j, j < l.length → ops[k + j]? = l[j]?) → tm' = tmOf ops (rs0 ++ rs) tm0 (fun _ => true) (k + l.length) ∧ ∀ j o, l[j]? = some o → QFactK P KK all L o (tmOf ops (rs0 ++ rs) tm0 (fun _ => true) (k + j)) ((rs0 ++ rs).getD (k + j) .any) := by
  intro l tm tm' rs h
  induction h with
  | nil tm => intro ops rs0 tm0 k h1 h2 h3; exact ⟨by simpa using h1, by simp⟩
  | @cons o rest tm r tm' rs hf hrun ih =>
    intro ops rs0 tm0 k h1 h2 h3
    have e1 : rs0 ++ r :: rs = (rs0 ++ [r]) ++ rs := by simp
    have hr : (rs0 ++ r :: rs).getD k .any = r := by
      rw [List.getD_eq_getElem?_getD, List.getElem?_append_right (by omega), h2]; simp
    have ho : ops[k]? = some o := by simpa using h3 0 (by simp)
    have hnext : putTm tm o.dst r = tmOf ops ((rs0 ++ [r]) ++ rs) tm0 (fun _ => true) (k + 1) := by
      rw [← e1]
      simp only [tmOf, if_true, ho, hr]
      rw [h1]
    obtain ⟨g1, g2⟩ := ih ops (rs0 ++ [r]) tm0 (k + 1) hnext (by simp [h2]) (fun j hj => by have := h3 (j + 1) (by simpa using hj); simpa [Nat.add_assoc, Nat.add_comm 1 j] using this)
    rw [← e1] at g1 g2
    refine ⟨by rw [g1]; congr 1; simp; omega, fun j o' ho' => ?_⟩
    cases j with
    | zero =>
      simp at ho'
      subst ho'
      rw [Nat.add_zero, ← h1, hr]
      exact hf
    | succ j =>
      have := g2 j o' (by simpa using ho')
      rw [show k + (j + 1) = k + 1 + j by omega]
      exact this


/-- What a quiet operation yields, calls in worlds of the kind. -/
def qOpK (P : Program) (T : TypeId → Ty) (KK : Env → World → Prop) (o : Op) (s : AS) (k : AV → Prop) : Prop :=
  match o with
  | .call { callee := .value f, args, .. } => ∃ r, QCallK P KK s.L (s.ev f) (args.toList.map s.ev) r ∧ k r
  | o => qOp P T o s k
theorem qOpK_sound (hT : TTOk P T) {KK : Env → World → Prop} {o : Oper} {s : AS} {k : AV → Prop} (h : qOpK P T KK o.op s k) : ∃ r, k r ∧ QOKK P KK o s r := by
  obtain ⟨dst, op, ty, pos, after, guard⟩ := o
  simp only at h
  unfold qOpK at h
  split at h
  · rename_i f args ts
    obtain ⟨r, h1, h2⟩ := h
    refine ⟨r, h2, fun ρ a w hr hk hop => ?_⟩
    have := h1 ρ w (a.eval f) (args.map a.eval) hr hk (hop f (by simp [Op.operands, Call.operands])) (by simp) (fun i v x hv hx => by
      rw [Array.getElem?_map] at hv
      rw [List.getElem?_map] at hx
      cases hq : args[i]? with
      | none => simp [hq] at hv
      | some q =>
        have hq' : args.toList[i]? = some q := by simpa using hq
        simp [hq] at hv
        simp [hq'] at hx
        subst hv; subst hx
        refine hop q ?_
        simp only [Op.operands, Call.operands, Array.mem_append]
        exact .inr (Array.mem_of_getElem? hq))
    simpa only [execOp, resolve] using this
  · obtain ⟨r, h1, h2⟩ := qOp_sound (o := ⟨dst, op, ty, pos, after, guard⟩) hT h
    exact ⟨r, h1, h2.k⟩

def sxQsK (P : Program) (T : TypeId → Ty) (KK : Env → World → Prop) : Nat → List Oper → AS → (AS → Prop) → Prop
  | 0, _, s, k => k s
  | _ + 1, [], s, k => k s
  | n + 1, o :: rest, s, k => o.guard = none ∧ qOpK P T KK o.op s (fun r => sxQsK P T KK n rest (s.put o.dst r) k)
def QNK (P : Program) (T : TypeId → Ty) (KK : Env → World → Prop) (n : Nat) (rest : List Oper) (dst : Option Tmp) (s : AS) (k : AS → Prop) (r : AV) : Prop := sxQsK P T KK n rest (s.put dst r) k
def QCK (P : Program) (KK : Env → World → Prop) (L : List OB) (f : AV) (args : List AV) (k : AV → Prop) : Prop := ∃ r, QCallK P KK L f args r ∧ k r
theorem qnk_eq (KK : Env → World → Prop) (n : Nat) (rest : List Oper) (dst : Option Tmp) (s : AS) (k : AS → Prop) (r : AV) : QNK P T KK n rest dst s k r = sxQsK P T KK n rest (s.put dst r) k := nrf rfl
theorem sxQsK_zero (KK : Env → World → Prop) (l : List Oper) (s : AS) (k : AS → Prop) : sxQsK P T KK 0 l s k = k s := by cases l <;> rfl
theorem sxQsK_cons (KK : Env → World → Prop) (n : Nat) (dst : Option Tmp) (op : Op) (ty : TypeId) (pos : String) (after : Array Edge) (rest : List Oper) (s : AS) (k : AS → Prop) :
    sxQsK P T KK (n + 1) ({ dst := dst, op := op, type := ty, pos := pos, after := after, guard := none } :: rest) s k = qOpK P T KK op s (QNK P T KK n rest dst s k) := by
  simp only [sxQsK, true_and]; rfl
theorem qOpK_call (KK : Env → World → Prop) (f : Operand) (args : Array Operand) (ts : Array TypeId) (s : AS) (k : AV → Prop) : qOpK P T KK (.call { callee := .value f, args := args, argTypes := ts }) s k = QCK P KK s.L (s.ev f) (args.toList.map s.ev) k := nrf rfl
theorem qOpK_field (KK : Env → World → Prop) (t : TypeId) (x : Operand) (i : Nat) (s : AS) (k : AV → Prop) : qOpK P T KK (.fieldAddr t x i) s k = qOp P T (.fieldAddr t x i) s k := nrf rfl
theorem qOpK_load (KK : Env → World → Prop) (t : TypeId) (x : Operand) (s : AS) (k : AV → Prop) : qOpK P T KK (.load t x) s k = qOp P T (.load t x) s k := nrf rfl
theorem qOpK_assign (KK : Env → World → Prop) (x : Operand) (s : AS) (k : AV → Prop) : qOpK P T KK (.assign x) s k = qOp P T (.assign x) s k := nrf rfl
theorem qOpK_build (KK : Env → World → Prop) (t : TypeId) (n : Nat) (xs : Array (Nat × Operand)) (s : AS) (k : AV → Prop) : qOpK P T KK (.buildSlice t n xs) s k = qOp P T (.buildSlice t n xs) s k := nrf rfl
theorem qOpK_move (KK : Env → World → Prop) (x : Operand) (s : AS) (k : AV → Prop) : qOpK P T KK (.move x) s k = qOp P T (.move x) s k := nrf rfl

theorem qrunK_of (hT : TTOk P T) {KK : Env → World → Prop} (all : List Oper) {k : AS → Prop} : ∀ (n : Nat) (l : List Oper) (s : AS), sxQsK P T KK n l s k → ∃ tm' rs, QRunK P KK all s.L (l.take n) s.tm tm' rs ∧ k ⟨tm', s.L⟩
  | 0, l, s, h => ⟨s.tm, [], .nil _, by rw [sxQsK_zero] at h; exact h⟩
  | n + 1, [], s, h => ⟨s.tm, [], .nil _, h⟩
  | n + 1, o :: rest, s, h => by
    obtain ⟨hg, hq⟩ := h
    obtain ⟨r, hr, hq⟩ := qOpK_sound hT hq
    rw [put_putTm] at hr
    obtain ⟨tm', rs, h1, h2⟩ := qrunK_of hT all n rest _ hr
    exact ⟨tm', r :: rs, .cons (.inl ⟨.inl hg, hq⟩) h1, h2⟩

/-- THE RULE FOR A REGION THAT DRAWS ITS ORDER: the first n operations are quiet and are walked in the order of the text; what stands behind them goes in its own order. -/
theorem awpK_drawQ {KK : Env → World → Prop} (hKS : Stays KK) (hT : TTOk P T) (hm : P.follows .mixedOrders = true) {id : Nat} {ops : List Oper} {Q : Exit → AS → Prop} {s : AS} (n : Nat) (hn : n ≤ ops.length) (hB : headB ops.toArray n = true)
    (htail : n = ops.length ∨ (Region.sinkB .any ops.toArray n = true ∧ Region.chainB .any ops.toArray n = true))
    (hseq : Region.seqB .any ops.toArray (ops.length - n) n ((List.range ops.length).map (fun k => decide (k < n))).toArray = true)
    (h : ∃ tm' rs, QRunK P KK ops s.L (ops.take n) s.tm tm' rs ∧ sxOps P T fx bl ops (ops.drop n) ⟨tm', s.L⟩ (Q .normal)) : awpK P fx KK (.region id ops.toArray true) Q s := by
  obtain ⟨tm', rs, hrun, hK⟩ := h
  obtain ⟨hrdy, hpair⟩ := headB_spec hB
  obtain ⟨hfin, hfacts⟩ := qrunK_facts (ops.take n) s.tm tm' rs hrun ops [] s.tm 0 rfl rfl (fun j hj => by rw [Nat.zero_add, List.getElem?_take_of_lt (by simp at hj; omega)])
  simp only [List.nil_append, Nat.zero_add, List.length_take, Nat.min_eq_left hn] at hfin hfacts
  have hfact : ∀ i, i < n → ∀ o, ops[i]? = some o → QFactK P KK ops s.L o (tmOf ops rs s.tm (fun _ => true) i) (rs.getD i .any) := fun i hi o ho => hfacts i o (by rw [List.getElem?_take_of_lt hi]; exact ho)
  intro ρ a w hr hkk
  refine wp_region_any hm ?_
  have hsz : ops.toArray.size = ops.length := by simp
  -- the statement for whatever has been carried out
  have key : ∀ (fuel : Nat) (listed : Array Bool) (a' : Act) (w' : World), unl ops.length listed = fuel → HeadInv .any ops.toArray n listed → Grow w w' → a'.defers = [] → a'.tmps.size = s.tm.length →
      (∀ (t : Nat) v x, a'.tmps[t]? = some v → (tmOf ops rs s.tm (fun k => listed.getD k false) n)[t]? = some x → VR w' ρ v x) →
      wpAny P .any ops.toArray (fun e a' w' => ∃ s' ρ', Q e s' ∧ Rel ρ' s' a' w' ∧ St fx ρ w ρ' w') fuel listed a' w' := by
    intro fuel
    induction fuel using Nat.strongRecOn with
    | _ fuel ih =>
    intro listed a' w' hfuel inv hg hd hs htm
    by_cases hall : ∀ i, i < n → listed.getD i false = true
    · -- the head is done
      have hlisted : listed = ((List.range ops.length).map (fun k => decide (k < n))).toArray := by
        apply Array.ext
        · rw [inv.size]; simp
        · intro i h1 h2
          simp at h2
          simp only [List.getElem_toArray, List.getElem_map, List.getElem_range]
          by_cases hi : i < n
          · have := hall i hi
            rw [Array.getD_eq_getD_getElem?, Array.getElem?_eq_getElem h1] at this
            simp at this
            simp [this, hi]
          · have := inv.tail i (by omega) (by rw [hsz]; exact h2)
            rw [Array.getD_eq_getD_getElem?, Array.getElem?_eq_getElem h1] at this
            simp at this
            simp [this, hi]
      have hcnt : fuel = (ops.drop n).length := by
        rw [← hfuel, hlisted]
        have : ∀ m, n ≤ m → m ≤ ops.length → (List.range m).countP (fun k => !(((List.range ops.length).map (fun k => decide (k < n))).toArray).getD k true) = m - n := by
          intro m
          induction m with
          | zero => intro h1 _; simp
          | succ m ihm =>
            intro h1 h2
            by_cases hmn : n ≤ m
            · rw [List.range_succ, List.countP_append, ihm hmn (by omega)]
              have hlt : m < ops.length := by omega
              have : ¬ m < n := by omega
              simp [hlt, this]
              omega
            · have hnm : n = m + 1 := by omega
              rw [← hnm]
              rw [List.countP_eq_zero.2, Nat.sub_self]
              intro k hk
              have hk' := List.mem_range.1 hk
              have : k < ops.length := by omega
              simp [this, hk']
        have := this ops.length hn (Nat.le_refl _)
        simp only [unl]
        rw [this]
        simp
      rw [hcnt]
      have hsq := hseq
      rw [show ops.length - n = (ops.drop n).length by simp] at hsq
      rw [hlisted]
      refine wpAny_of_seq (ops.drop n) n _ a' w' (fun j => by simp [List.getElem?_drop]) hsq ?_
      have hrel : Rel ρ ⟨tm', s.L⟩ a' w' := ⟨hd, by rw [hs, hfin, tmOf_len], fun t v x h1 h2 => htm t v x h1 (by
        rw [hfin] at h2
        rw [← h2]
        exact tmOf_congr ops rs s.tm _ _ t n fun k hk o _ _ => hall k hk), hr.hr.grow hg⟩
      have := sxOps_sound (fx := fx) hT ops (ops.drop n) ⟨tm', s.L⟩ ρ a' w' hK hrel (St.grow (fx := fx) hg)
      refine wpList_post this fun e a'' w'' ⟨s', ρ', q1, q2⟩ => ?_
      cases e <;> first | exact ⟨s', ρ', q1, q2⟩ | cases q1
    · -- some of the head is still to come
      have hex : ∃ i, i < n ∧ listed.getD i false = false := by
        refine Classical.byContradiction fun hc => hall fun i hi => ?_
        cases hl : listed.getD i false with
        | true => rfl
        | false => exact absurd ⟨i, hi, hl⟩ hc
      obtain ⟨i0, ⟨hi0, hl0⟩, hmin⟩ := least_ex hex
      have hin : ∀ i, i < n → i < listed.size := fun i hi => by rw [inv.size, hsz]; omega
      have hready0 : i0 ∈ Region.ready .any ops.toArray listed := by
        obtain ⟨o0, ho0, he0⟩ := hrdy i0 hi0
        refine mem_ready.2 ⟨getD_in (hin _ hi0) hl0, o0, ho0, fun e he hb => ?_⟩
        have := he0 e he hb
        cases hl : listed.getD e.on false with
        | true => rfl
        | false => have := hmin e.on ⟨by omega, hl⟩; omega
      have hheads : ∀ i, i ∈ Region.ready .any ops.toArray listed → i < n := fun i hi => by
        rcases Nat.lt_or_ge i n with h' | h'
        · exact h'
        · rcases htail with hnl | ⟨hs1, hs2⟩
          · obtain ⟨_, o, ho, _⟩ := mem_ready.1 hi
            have := (Array.getElem?_eq_some_iff.1 ho).1
            rw [hsz] at this
            omega
          · have hnlt : n < ops.toArray.size := by
              obtain ⟨_, o, ho, _⟩ := mem_ready.1 hi
              have := (Array.getElem?_eq_some_iff.1 ho).1
              omega
            exact absurd hi (tail_waits hs1 hs2 hnlt inv _ i0 rfl hi0 (getD_in (hin _ hi0) hl0) i h')
      have step : ∀ i ∈ Region.ready .any ops.toArray listed, wpOp P ops.toArray (fun e a' w' => ∃ s' ρ', Q e s' ∧ Rel ρ' s' a' w' ∧ St fx ρ w ρ' w') i
          (wpAny P .any ops.toArray (fun e a' w' => ∃ s' ρ', Q e s' ∧ Rel ρ' s' a' w' ∧ St fx ρ w ρ' w') (fuel - 1) (listed.setIfInBounds i true)) a' w' ∧ 0 < fuel := fun i hi => by
        have hin' := hheads i hi
        obtain ⟨hun, o, ho, hedge⟩ := mem_ready.1 hi
        have ho' : ops[i]? = some o := by simpa using ho
        have hunf : listed.getD i false = false := getD_both hun
        -- the writers of what it looks at
        have wr : ∀ t, t ∈ o.looksAt ops.toArray → ∀ k, k < n → ∀ ok, ops[k]? = some ok → ok.dst = some t → listed.getD k false = decide (k < i) := fun t ht k hk ok hok hdst => by
          have hok' : ops.toArray[k]? = some ok := by simpa using hok
          rcases Nat.lt_trichotomy k i with hlt | heq | hgt
          · rcases hpair k i ok o hlt hin' hok' ho with ⟨e, he, hb, hon⟩ | hap
            · have := hedge e he hb
              rw [hon] at this
              simp [this, hlt]
            · exact absurd ht ((Oper.apart_spec hap).1 t hdst)
          · subst heq
            simp [hunf]
          · rcases hpair i k o ok hgt hk ho hok' with ⟨e, he, hb, hon⟩ | hap
            · cases hl : listed.getD k false with
              | true =>
                have := inv.closed k ok hok' hl e he hb
                rw [hon, hunf] at this
                cases this
              | false => simp; omega
            · exact absurd ht ((Oper.apart_spec hap).2.2 t hdst)
        have same : ∀ t, t ∈ o.looksAt ops.toArray → (tmOf ops rs s.tm (fun k => listed.getD k false) n)[t]? = (tmOf ops rs s.tm (fun _ => true) i)[t]? := fun t ht => by
          rw [tmOf_congr ops rs s.tm (fun k => listed.getD k false) (fun k => decide (k < i)) t n (fun k hk ok hok hdst => wr t ht k hk ok hok hdst)]
          clear ih htm hready0 hfuel
          have : ∀ m, i ≤ m → tmOf ops rs s.tm (fun k => decide (k < i)) m = tmOf ops rs s.tm (fun _ => true) i := by
            intro m
            induction m with
            | zero => intro h1; have : i = 0 := by omega
                      subst this; rfl
            | succ m ihm =>
              intro h1
              by_cases him : i ≤ m
              · simp only [tmOf]
                rw [if_neg (by simp; omega), ihm him]
              · have : i = m + 1 := by omega
                subst this
                clear ihm h1 him
                have : ∀ j, j ≤ m + 1 → tmOf ops rs s.tm (fun k => decide (k < m + 1)) j = tmOf ops rs s.tm (fun _ => true) j := by
                  intro j
                  induction j with
                  | zero => intro _; rfl
                  | succ j ihj =>
                    intro hj
                    simp only [tmOf]
                    rw [if_pos (by simp; omega), ihj (by omega)]
                    simp
                exact this _ (Nat.le_refl _)
          rw [this n (by omega)]
        have hHR : HR w' ρ s.L := hr.hr.grow hg
        have hKw : KK ρ w' := hKS _ _ _ _ _ hkk (St.grow (fx := fx) hg)
        have hev : ∀ t, t ∈ o.looksAt ops.toArray → VR w' ρ (a'.eval (.tmp t)) ((⟨tmOf ops rs s.tm (fun _ => true) i, s.L⟩ : AS).ev (.tmp t)) := fun t ht => by
          simp only [Act.eval, AS.ev]
          rcases Nat.lt_or_ge t s.tm.length with hlt | hge
          · have h1 : (tmOf ops rs s.tm (fun k => listed.getD k false) n)[t]? = some ((tmOf ops rs s.tm (fun k => listed.getD k false) n)[t]'(by rw [tmOf_len]; exact hlt)) := List.getElem?_eq_getElem _
            have h2 : a'.tmps[t]? = some (a'.tmps[t]'(by rw [hs]; exact hlt)) := Array.getElem?_eq_getElem _
            have := htm t _ _ h2 h1
            rw [List.getD_eq_getElem?_getD, ← same t ht, h1, Array.getD_eq_getD_getElem?, h2]
            exact this
          · rw [List.getD_eq_getElem?_getD, List.getElem?_eq_none (by rw [tmOf_len]; exact hge)]
            exact .pr (.any _)
        have hgb : ∀ g want y, o.guard = some (g, want) → gBool ops ⟨tmOf ops rs s.tm (fun _ => true) i, s.L⟩ g = some y → yielded ops.toArray a'.tmps g = y := fun g want y hgd hgy => by
          unfold gBool at hgy
          unfold yielded
          simp only [List.getElem?_toArray]
          split at hgy
          · rename_i hdn; cases hgy; simp [hdn]
          · rename_i d hdn
            have hlook : d ∈ o.looksAt ops.toArray := looks_guard hgd (by simpa using hdn)
            rw [hdn]
            simp only [Option.bind_some]
            rw [← same d hlook] at hgy
            split at hgy
            · rename_i b hb
              cases hgy
              have hlt : d < a'.tmps.size := by rw [hs, ← tmOf_len ops rs s.tm (fun k => listed.getD k false) n]; exact (List.getElem?_eq_some_iff.1 hb).1
              have hv := Array.getElem?_eq_getElem hlt
              have := val_inv (htm d _ _ hv hb)
              rw [hv, this]
            · rename_i v hnb hb
              cases hgy
              have hlt : d < a'.tmps.size := by rw [hs, ← tmOf_len ops rs s.tm (fun k => listed.getD k false) n]; exact (List.getElem?_eq_some_iff.1 hb).1
              have hv := Array.getElem?_eq_getElem hlt
              have := val_inv (htm d _ _ hv hb)
              rw [hv, this]
              cases v <;> first | rfl | exact absurd rfl (hnb _)
            · rename_i hnn
              cases hgy
              have : a'.tmps[d]? = none := by
                rw [Array.getElem?_eq_none_iff, hs, ← tmOf_len ops rs s.tm (fun k => listed.getD k false) n]
                exact List.getElem?_eq_none_iff.1 hnn
              rw [this]
            · cases hgy
        have hpos : unl ops.length (listed.setIfInBounds i true) + 1 = unl ops.length listed := by
          refine countP_set _ _ i (by simp only [hun]; rfl) ?_ (fun k hk => ?_) _ (by omega)
          · rw [Array.getD_eq_getD_getElem?, Array.getElem?_setIfInBounds_self_of_lt (hin _ hin')]; rfl
          · show (!(listed.setIfInBounds i true).getD k true) = !listed.getD k true
            rw [getD_set_ne true (Ne.symm hk)]
        -- what stands behind it
        have cont : ∀ v w'', VR w'' ρ v (rs.getD i .any) → Grow w' w'' → wpAny P .any ops.toArray (fun e a' w' => ∃ s' ρ', Q e s' ∧ Rel ρ' s' a' w' ∧ St fx ρ w ρ' w') (fuel - 1) (listed.setIfInBounds i true) (a'.put o.dst v) w'' := fun v w'' hv hg' => by
          refine ih (fuel - 1) (by omega) _ _ _ (by omega) (inv.set hi hin') (Fr.trans (o' := fun _ => False) hg hg' (fun _ h => False.elim h)) (by cases o.dst <;> exact hd) (by cases o.dst <;> simp [Act.put, hs]) fun t u x h1 h2 => ?_
          by_cases hdt : o.dst = some t
          · have hwv : (tmOf ops rs s.tm (fun k => (listed.setIfInBounds i true).getD k false) n)[t]? = some (rs.getD i .any) := by
              have htl : t < s.tm.length := by
                rw [← tmOf_len ops rs s.tm (fun k => (listed.setIfInBounds i true).getD k false) n]
                exact (List.getElem?_eq_some_iff.1 h2).1
              refine tmOf_wr ops rs s.tm _ t ho' hdt ?_ htl n hin' fun k h3 h4 ok hok hdst => ?_
              · rw [Array.getD_eq_getD_getElem?, Array.getElem?_setIfInBounds_self_of_lt (hin _ hin')]; rfl
              · have hok' : ops.toArray[k]? = some ok := by simpa using hok
                rw [getD_set_ne false (by omega)]
                rcases hpair i k o ok h3 h4 ho hok' with ⟨e, he, hb, hon⟩ | hap
                · cases hl : listed.getD k false with
                  | true =>
                    have := inv.closed k ok hok' hl e he hb
                    rw [hon, hunf] at this
                    cases this
                  | false => rfl
                · exact absurd hdst ((Oper.apart_spec hap).2.1 t hdt)
            rw [hwv] at h2
            cases h2
            rw [hdt] at h1
            simp only [Act.put] at h1
            have htl : t < a'.tmps.size := by
              have := (Array.getElem?_eq_some_iff.1 h1).1
              simpa using this
            rw [Array.getElem?_setIfInBounds_self_of_lt htl] at h1
            cases h1
            exact hv
          · have h3 : a'.tmps[t]? = some u := by
              cases hdd : o.dst with
              | none => rw [hdd] at h1; exact h1
              | some d =>
                rw [hdd] at h1
                simp only [Act.put] at h1
                rw [Array.getElem?_setIfInBounds_ne (fun e => hdt (by rw [hdd, e]))] at h1
                exact h1
            have h4 : (tmOf ops rs s.tm (fun k => listed.getD k false) n)[t]? = some x := by
              rw [← h2]
              refine tmOf_congr ops rs s.tm _ _ t n fun k hk ok hok hdst => ?_
              by_cases hki : k = i
              · subst hki
                rw [ho'] at hok; cases hok
                exact absurd hdst hdt
              · rw [getD_set_ne false (Ne.symm hki)]
            exact (htm t u x h3 h4).grow hg'
        refine ⟨?_, by omega⟩
        unfold wpOp
        rw [ho]
        simp only []
        rcases hfact i hin' o ho' with ⟨hgd, hq⟩ | ⟨hru, g, want, y, hgd, hgy, hne⟩
        · have hw : Region.wanted o (yielded ops.toArray a'.tmps) = true := by
            rcases hgd with hgd | ⟨g, want, hgd, hgy⟩
            · simp [Region.wanted, hgd]
            · simp [Region.wanted, hgd, hgb g want _ hgd hgy]
          rw [if_pos hw]
          refine .inl (wp_of_out ((hq ρ a' w' hHR hKw fun x hx => ?_).mono fun v w'' ⟨h1, h2⟩ => cont v w'' h1 h2))
          cases x with
          | tmp t => exact hev t (looks_ops hx)
          | const v => exact .ofV v
          | global g => exact .pr (.any _)
          | func f => exact .fn f #[] [] rfl (by simp)
        · have hw : Region.wanted o (yielded ops.toArray a'.tmps) = false := by
            simp only [Region.wanted, hgd, hgb g want _ hgd hgy]
            simpa using hne
          rw [if_neg (by simp [hw])]
          exact cont undef w' (by rw [hru]; exact .pr (.val _)) .refl
      cases fuel with
      | zero => exact absurd (step i0 hready0).2 (by omega)
      | succ fuel => exact ⟨fun h0 => (by rw [h0] at hready0; cases hready0), fun i hi => (step i hi).1⟩
  have hw1 : Grow w w.drew := Grow.drew
  refine key _ _ _ _ ?_ ⟨by simp, fun j oj hj hl => ?_, fun t h1 h2 => ?_⟩ hw1 hr.dfr hr.size fun t v x h1 h2 => ?_
  · rw [hsz]
    simp only [unl]
    rw [List.countP_eq_length.2 (fun k hk => ?_)]
    · simp
    · have := List.mem_range.1 hk
      simp [this]
  · rw [getD_replicate_false] at hl; cases hl
  · rw [hsz] at h2; simp [h2]
  · have : ∀ m, tmOf ops rs s.tm (fun k => (Array.replicate ops.toArray.size false).getD k false) m = s.tm := by
      intro m
      induction m with
      | zero => rfl
      | succ m ihm =>
        simp only [tmOf]
        rw [if_neg (by rw [getD_replicate_false]; simp)]
        exact ihm
    rw [this] at h2
    exact (hr.tm t v x h1 h2).grow hw1


theorem awpK_draw {KK : Env → World → Prop} (hKS : Stays KK) (hT : TTOk P T) (hm : P.follows .mixedOrders = true) {id : Nat} {ops : List Oper} {Q : Exit → AS → Prop} {s : AS} (n : Nat) (hn : n ≤ ops.length) (hB : headB ops.toArray n = true)
    (htail : n = ops.length ∨ (Region.sinkB .any ops.toArray n = true ∧ Region.chainB .any ops.toArray n = true))
    (hseq : Region.seqB .any ops.toArray (ops.length - n) n ((List.range ops.length).map (fun k => decide (k < n))).toArray = true)
    (h : sxQsK P T KK n ops s (fun s' => sxOps P T fx bl ops (ops.drop n) s' (Q .normal))) : awpK P fx KK (.region id ops.toArray true) Q s :=
  awpK_drawQ hKS hT hm n hn hB htail hseq (qrunK_of hT ops n ops s h)
end
theorem DCqk0 : type_of% @qnk_eq ∧ type_of% @sxQsK_zero ∧ type_of% @sxQsK_cons ∧ type_of% @qOpK_call ∧ type_of% @qOpK_field ∧ type_of% @qOpK_load ∧ type_of% @qOpK_move ∧ type_of% @qOpK_assign ∧ type_of% @qOpK_build := ⟨@qnk_eq, @sxQsK_zero, @sxQsK_cons, @qOpK_call, @qOpK_field, @qOpK_load, @qOpK_move, @qOpK_assign, @qOpK_build⟩
end Go.Pc
