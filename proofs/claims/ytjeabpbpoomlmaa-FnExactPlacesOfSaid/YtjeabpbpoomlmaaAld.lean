/- The abstract logic, ninth part: regions that draw their order: the quiet operations at the head in whatever order, the others behind them in theirs. -/
import Derived.Test.YtjeabpbpoomlmaaAlr
set_option linter.unusedSimpArgs false
set_option linter.unusedVariables false
namespace Go.Pc
open Go

section
variable {P : Program} {T : TypeId → Ty} {fx bl : List Nat}

/-- One operation of the head, with what it yields: it runs and yields r, or its guard is shut. -/
def QFact (P : Program) (all : List Oper) (L : List OB) (o : Oper) (tm : List AV) (r : AV) : Prop :=
  ((o.guard = none ∨ ∃ g want, o.guard = some (g, want) ∧ gBool all ⟨tm, L⟩ g = some (some want)) ∧ QOK P o ⟨tm, L⟩ r) ∨
  (r = .val undef ∧ ∃ g want y, o.guard = some (g, want) ∧ gBool all ⟨tm, L⟩ g = some y ∧ y ≠ some want)

def putTm (tm : List AV) (dst : Option Tmp) (r : AV) : List AV :=
  match dst with
  | some d => tm.set d r
  | none => tm

inductive QRun (P : Program) (all : List Oper) (L : List OB) : List Oper → List AV → List AV → List AV → Prop
  | nil (tm) : QRun P all L [] tm tm []
  | cons {o rest tm r tm' rs} (h : QFact P all L o tm r) (h' : QRun P all L rest (putTm tm o.dst r) tm' rs) : QRun P all L (o :: rest) tm tm' (r :: rs)

/-- The quiet walk of the head, n operations, in the order of the text. -/
def sxQs (P : Program) (T : TypeId → Ty) (all : List Oper) : Nat → List Oper → AS → (AS → Prop) → Prop
  | 0, _, s, K => K s
  | _ + 1, [], s, K => K s
  | n + 1, o :: rest, s, K =>
    match o.guard with
    | none => qOp P T o.op s (fun r => sxQs P T all n rest (s.put o.dst r) K)
    | some (g, want) =>
      match gBool all s g with
      | some (some b) => (b = want → qOp P T o.op s (fun r => sxQs P T all n rest (s.put o.dst r) K)) ∧ (b = !want → sxQs P T all n rest (s.put o.dst (.val undef)) K)
      | some none => sxQs P T all n rest (s.put o.dst (.val undef)) K
      | none => False

theorem put_putTm (s : AS) (dst : Option Tmp) (r : AV) : s.put dst r = ⟨putTm s.tm dst r, s.L⟩ := by
  cases dst <;> rfl

theorem qrun_of (hT : TTOk P T) (all : List Oper) {K : AS → Prop} : ∀ (n : Nat) (l : List Oper) (s : AS), sxQs P T all n l s K → ∃ tm' rs, QRun P all s.L (l.take n) s.tm tm' rs ∧ K ⟨tm', s.L⟩
  | 0, l, s, h => ⟨s.tm, [], .nil _, h⟩
  | n + 1, [], s, h => ⟨s.tm, [], .nil _, h⟩
  | n + 1, o :: rest, s, h => by
    have go : qOp P T o.op s (fun r => sxQs P T all n rest (s.put o.dst r) K) → (o.guard = none ∨ ∃ g want, o.guard = some (g, want) ∧ gBool all ⟨s.tm, s.L⟩ g = some (some want)) →
        ∃ tm' rs, QRun P all s.L ((o :: rest).take (n + 1)) s.tm tm' rs ∧ K ⟨tm', s.L⟩ := fun hq hg => by
      obtain ⟨r, hr, hq⟩ := qOp_sound hT hq
      rw [put_putTm] at hr
      obtain ⟨tm', rs, h1, h2⟩ := qrun_of hT all n rest _ hr
      exact ⟨tm', r :: rs, .cons (.inl ⟨hg, hq⟩) h1, h2⟩
    have skip : sxQs P T all n rest (s.put o.dst (.val undef)) K → (∃ g want y, o.guard = some (g, want) ∧ gBool all ⟨s.tm, s.L⟩ g = some y ∧ y ≠ some want) →
        ∃ tm' rs, QRun P all s.L ((o :: rest).take (n + 1)) s.tm tm' rs ∧ K ⟨tm', s.L⟩ := fun hr hg => by
      rw [put_putTm] at hr
      obtain ⟨tm', rs, h1, h2⟩ := qrun_of hT all n rest _ hr
      exact ⟨tm', _ :: rs, .cons (.inr ⟨rfl, hg⟩) h1, h2⟩
    simp only [sxQs] at h
    cases hg : o.guard with
    | none => rw [hg] at h; exact go h (.inl hg)
    | some gw =>
      obtain ⟨g, want⟩ := gw
      rw [hg] at h
      simp only at h
      split at h
      · rename_i b hb
        by_cases hbw : b = want
        · exact go (h.1 hbw) (.inr ⟨g, want, hg, by rw [← hbw]; exact hb⟩)
        · exact skip (h.2 (by cases b <;> cases want <;> simp_all)) ⟨g, want, some b, hg, hb, by simpa using hbw⟩
      · rename_i hb
        exact skip h ⟨g, want, none, hg, hb, by simp⟩
      · cases h

/-- The temporaries when some of the head's operations have been carried out. -/
def tmOf (ops : List Oper) (rs : List AV) (tm0 : List AV) (p : Nat → Bool) (n : Nat) : List AV :=
  match n with
  | 0 => tm0
  | n + 1 => if p n then (match ops[n]? with | some o => putTm (tmOf ops rs tm0 p n) o.dst (rs.getD n .any) | none => tmOf ops rs tm0 p n) else tmOf ops rs tm0 p n

theorem putTm_len (tm : List AV) (d : Option Tmp) (r : AV) : (putTm tm d r).length = tm.length := by cases d <;> simp [putTm]

theorem tmOf_len (ops : List Oper) (rs : List AV) (tm0 : List AV) (p : Nat → Bool) : ∀ n, (tmOf ops rs tm0 p n).length = tm0.length
  | 0 => rfl
  | n + 1 => by
    simp only [tmOf]
    split
    · split
      · rw [putTm_len, tmOf_len ops rs tm0 p n]
      · exact tmOf_len ops rs tm0 p n
    · exact tmOf_len ops rs tm0 p n

theorem putTm_ne {tm : List AV} {d : Option Tmp} {r : AV} {t : Nat} (h : d ≠ some t) : (putTm tm d r)[t]? = tm[t]? := by
  cases d with
  | none => rfl
  | some d => simp only [putTm]; rw [List.getElem?_set_ne (fun e => h (by rw [e]))]

/-- What a temporary holds hangs on those alone that write it. -/
theorem tmOf_congr (ops : List Oper) (rs : List AV) (tm0 : List AV) (p q : Nat → Bool) (t : Nat) : ∀ n, (∀ k, k < n → ∀ o, ops[k]? = some o → o.dst = some t → p k = q k) → (tmOf ops rs tm0 p n)[t]? = (tmOf ops rs tm0 q n)[t]?
  | 0, _ => rfl
  | n + 1, h => by
    have ih := tmOf_congr ops rs tm0 p q t n (fun k hk => h k (by omega))
    simp only [tmOf]
    cases ho : ops[n]? with
    | none => simp only []; split <;> split <;> exact ih
    | some o =>
      simp only []
      by_cases hd : o.dst = some t
      · have hpq := h n (by omega) o ho hd
        rw [hpq]
        split
        · rw [hd]
          simp only [putTm, List.getElem?_set, tmOf_len, if_true]
        · exact ih
      · have e1 : ∀ tm : List AV, (putTm tm o.dst (rs.getD n .any))[t]? = tm[t]? := fun tm => putTm_ne hd
        split <;> split <;> (try simp only [e1]) <;> exact ih

theorem tmOf_wr (ops : List Oper) (rs : List AV) (tm0 : List AV) (p : Nat → Bool) (t : Nat) {i : Nat} {o : Oper} (ho : ops[i]? = some o) (hd : o.dst = some t) (hp : p i = true) (ht : t < tm0.length) : ∀ n, i < n →
    (∀ k, i < k → k < n → ∀ o', ops[k]? = some o' → o'.dst = some t → p k = false) → (tmOf ops rs tm0 p n)[t]? = some (rs.getD i .any)
  | 0, hi, _ => by omega
  | n + 1, hi, h => by
    simp only [tmOf]
    by_cases hin : i = n
    · subst hin
      rw [if_pos hp, ho]
      simp only []
      rw [hd]
      simp only [putTm]
      rw [List.getElem?_set_self (by rw [tmOf_len]; exact ht)]
    · have ih := tmOf_wr ops rs tm0 p t ho hd hp ht n (by omega) (fun k h1 h2 => h k h1 (by omega))
      split
      · rename_i hpn
        cases ho' : ops[n]? with
        | none => exact ih
        | some o' =>
          simp only []
          have : o'.dst ≠ some t := fun hd' => by
            have := h n (by omega) (by omega) o' ho' hd'
            rw [this] at hpn; cases hpn
          rw [putTm_ne this]
          exact ih
      · exact ih

/-- The run's facts, operation by operation. -/
theorem qrun_facts {all : List Oper} {L : List OB} : ∀ (l : List Oper) (tm tm' : List AV) (rs : List AV), QRun P all L l tm tm' rs → ∀ (ops : List Oper) (rs0 : List AV) (tm0 : List AV) (k : Nat), tm = tmOf ops (rs0 ++ rs) tm0 (fun _ => true) k → rs0.length = k →
    (∀ j, j < l.length → ops[k + j]? = l[j]?) → tm' = tmOf ops (rs0 ++ rs) tm0 (fun _ => true) (k + l.length) ∧ ∀ j o, l[j]? = some o → QFact P all L o (tmOf ops (rs0 ++ rs) tm0 (fun _ => true) (k + j)) ((rs0 ++ rs).getD (k + j) .any) := by
  intro l tm tm' rs h
  induction h with
  | nil tm => intro ops rs0 tm0 k h1 h2 h3; exact ⟨by simpa using h1, by simp⟩
  | @cons o rest tm r tm' rs hf hrun ih =>
    intro ops rs0 tm0 k h1 h2 h3
    have e1 : rs0 ++ r :: rs = (rs0 ++ [r]) ++ rs := by simp
    have hr : (rs0 ++ r :: rs).getD k .any = r := by
      rw [List.getD_eq_getElem?_getD, List.getElem?_append_right (by omega), h2]; simp
    have ho : ops[k]? = some o := by simpa using h3 0 (by simp)
    have hnext : putTm tm o.dst r = tmOf ops ((rs0 ++ [r]) ++ rs) tm0 (fun _ => true) (k + 1) := by
      rw [← e1]
      simp only [tmOf, if_true, ho, hr]
      rw [h1]
    obtain ⟨g1, g2⟩ := ih ops (rs0 ++ [r]) tm0 (k + 1) hnext (by simp [h2]) (fun j hj => by have := h3 (j + 1) (by simpa using hj); simpa [Nat.add_assoc, Nat.add_comm 1 j] using this)
    rw [← e1] at g1 g2
    refine ⟨by rw [g1]; congr 1; simp; omega, fun j o' ho' => ?_⟩
    cases j with
    | zero =>
      simp at ho'
      subst ho'
      rw [Nat.add_zero, ← h1, hr]
      exact hf
    | succ j =>
      have := g2 j o' (by simpa using ho')
      rw [show k + (j + 1) = k + 1 + j by omega]
      exact this

/-- No two of the head's operations touch one temporary but in a bound order. -/
def headB (ops : Array Oper) (n : Nat) : Bool :=
  (List.range n).all fun j =>
    match ops[j]? with
    | none => false
    | some oj => (oj.after.all fun e => !Region.binds .any e || decide (e.on < j)) &&
      (List.range j).all fun i =>
        match ops[i]? with
        | none => false
        | some oi => oj.after.any (fun e => Region.binds .any e && e.on == i) || oi.apart ops oj

theorem headB_spec {ops : Array Oper} {n : Nat} (h : headB ops n = true) : (∀ j, j < n → ∃ oj, ops[j]? = some oj ∧ ∀ e ∈ oj.after, Region.binds .any e = true → e.on < j) ∧
    ∀ i j oi oj, i < j → j < n → ops[i]? = some oi → ops[j]? = some oj → (∃ e ∈ oj.after, Region.binds .any e = true ∧ e.on = i) ∨ oi.apart ops oj = true := by
  simp only [headB, List.all_eq_true, List.mem_range] at h
  refine ⟨fun j hj => ?_, fun i j oi oj hij hj hoi hoj => ?_⟩
  · have := h j hj
    cases ho : ops[j]? with
    | none => simp [ho] at this
    | some oj =>
      rw [ho] at this
      simp only [Bool.and_eq_true] at this
      refine ⟨oj, rfl, fun e he hb => ?_⟩
      have := Array.all_eq_true_iff_forall_mem.1 this.1 e he
      simpa [hb] using this
  · have := h j hj
    rw [hoj] at this
    simp only [Bool.and_eq_true, List.all_eq_true, List.mem_range] at this
    have := this.2 i hij
    rw [hoi] at this
    simp only [Bool.or_eq_true] at this
    rcases this with h' | h'
    · obtain ⟨e, he, hb⟩ := Array.any_eq_true'.1 h'
      simp only [Bool.and_eq_true, beq_iff_eq] at hb
      exact .inl ⟨e, he, hb.1, hb.2⟩
    · exact .inr h'

theorem countP_set (p q : Nat → Bool) (i : Nat) (hp : p i = true) (hq : q i = false) (h : ∀ k, k ≠ i → q k = p k) : ∀ n, i < n → (List.range n).countP q + 1 = (List.range n).countP p
  | 0, hi => by omega
  | n + 1, hi => by
    rw [List.range_succ, List.countP_append, List.countP_append]
    by_cases hin : i = n
    · subst hin
      have : (List.range i).countP q = (List.range i).countP p := List.countP_congr fun k hk => by rw [h k (by have := List.mem_range.1 hk; omega)]
      rw [this]
      simp [hp, hq]
    · have ih := countP_set p q i hp hq h n (by omega)
      have e : List.countP q [n] = List.countP p [n] := List.countP_congr fun k hk => by
        have : k = n := by simpa using hk
        rw [h k (by omega)]
      omega

theorem wpList_post {ops : Array Oper} {Q Q' : Exit → Act → World → Prop} : ∀ {l : List Oper} {a : Act} {w : World}, wpList P ops Q l a w → (∀ e a w, Q e a w → Q' e a w) → wpList P ops Q' l a w
  | [], _, _, h, hq => hq _ _ _ h
  | o :: l, a, w, h, hq => by
    unfold wpList at h ⊢
    split
    · rename_i hw
      rw [if_pos hw] at h
      rcases h with h | ⟨h1, a0, w0, h2⟩
      · refine .inl ?_
        have h' := Oper.wp_mono (Q := Q) (fun a w (hh : wpList P ops Q l a w) => wpList_post hh hq) h
        unfold Oper.wp at h' ⊢
        generalize (execOp a.eval o).run P w = r at h'
        cases r with
        | ok n w' =>
          cases n <;> simp only [Oper.upon] at h' ⊢ <;> first
            | exact h'
            | exact h'.mono fun e w'' he => by cases e <;> first | exact he | exact hq _ _ _ he | (obtain ⟨a1, w1, h3⟩ := he; exact ⟨a1, w1, hq _ _ _ h3⟩)
        | halt x w' => cases x <;> simp only [Oper.upon] at h' ⊢ <;> first | exact h' | exact hq _ _ _ h'
      · exact .inr ⟨h1, a0, w0, hq _ _ _ h2⟩
    · rename_i hw
      rw [if_neg hw] at h
      exact wpList_post h hq

def unl (size : Nat) (listed : Array Bool) : Nat := (List.range size).countP fun k => !listed.getD k true

theorem looks_ops {ops : Array Oper} {o : Oper} {t : Tmp} (h : Operand.tmp t ∈ o.op.operands) : t ∈ o.looksAt ops :=
  List.mem_append_left _ (List.mem_filterMap.2 ⟨.tmp t, by simpa using h, rfl⟩)

theorem looks_guard {ops : Array Oper} {o : Oper} {g : Nat} {want : Bool} {d : Tmp} (h : o.guard = some (g, want)) (hd : (ops[g]?).bind (·.dst) = some d) : d ∈ o.looksAt ops :=
  List.mem_append_right _ (by simp [h, hd])

/-- THE RULE FOR A REGION THAT DRAWS ITS ORDER: the first n operations are quiet and are walked in the order of the text; what stands behind them goes in its own order. -/
theorem awp_drawQ (hT : TTOk P T) (hm : P.follows .mixedOrders = true) {id : Nat} {ops : List Oper} {Q : Exit → AS → Prop} {s : AS} (n : Nat) (hn : n ≤ ops.length) (hB : headB ops.toArray n = true)
    (htail : n = ops.length ∨ (Region.sinkB .any ops.toArray n = true ∧ Region.chainB .any ops.toArray n = true))
    (hseq : Region.seqB .any ops.toArray (ops.length - n) n ((List.range ops.length).map (fun k => decide (k < n))).toArray = true)
    (h : ∃ tm' rs, QRun P ops s.L (ops.take n) s.tm tm' rs ∧ sxOps P T fx bl ops (ops.drop n) ⟨tm', s.L⟩ (Q .normal)) : awp P fx (.region id ops.toArray true) Q s := by
  obtain ⟨tm', rs, hrun, hK⟩ := h
  obtain ⟨hrdy, hpair⟩ := headB_spec hB
  obtain ⟨hfin, hfacts⟩ := qrun_facts (ops.take n) s.tm tm' rs hrun ops [] s.tm 0 rfl rfl (fun j hj => by rw [Nat.zero_add, List.getElem?_take_of_lt (by simp at hj; omega)])
  simp only [List.nil_append, Nat.zero_add, List.length_take, Nat.min_eq_left hn] at hfin hfacts
  have hfact : ∀ i, i < n → ∀ o, ops[i]? = some o → QFact P ops s.L o (tmOf ops rs s.tm (fun _ => true) i) (rs.getD i .any) := fun i hi o ho => hfacts i o (by rw [List.getElem?_take_of_lt hi]; exact ho)
  intro ρ a w hr
  refine wp_region_any hm ?_
  have hsz : ops.toArray.size = ops.length := by simp
  -- the statement for whatever has been carried out
  have key : ∀ (fuel : Nat) (listed : Array Bool) (a' : Act) (w' : World), unl ops.length listed = fuel → HeadInv .any ops.toArray n listed → Grow w w' → a'.defers = [] → a'.tmps.size = s.tm.length →
      (∀ (t : Nat) v x, a'.tmps[t]? = some v → (tmOf ops rs s.tm (fun k => listed.getD k false) n)[t]? = some x → VR w' ρ v x) →
      wpAny P .any ops.toArray (fun e a' w' => ∃ s' ρ', Q e s' ∧ Rel ρ' s' a' w' ∧ St fx ρ w ρ' w') fuel listed a' w' := by
    intro fuel
    induction fuel using Nat.strongRecOn with
    | _ fuel ih =>
    intro listed a' w' hfuel inv hg hd hs htm
    by_cases hall : ∀ i, i < n → listed.getD i false = true
    · -- the head is done
      have hlisted : listed = ((List.range ops.length).map (fun k => decide (k < n))).toArray := by
        apply Array.ext
        · rw [inv.size]; simp
        · intro i h1 h2
          simp at h2
          simp only [List.getElem_toArray, List.getElem_map, List.getElem_range]
          by_cases hi : i < n
          · have := hall i hi
            rw [Array.getD_eq_getD_getElem?, Array.getElem?_eq_getElem h1] at this
            simp at this
            simp [this, hi]
          · have := inv.tail i (by omega) (by rw [hsz]; exact h2)
            rw [Array.getD_eq_getD_getElem?, Array.getElem?_eq_getElem h1] at this
            simp at this
            simp [this, hi]
      have hcnt : fuel = (ops.drop n).length := by
        rw [← hfuel, hlisted]
        have : ∀ m, n ≤ m → m ≤ ops.length → (List.range m).countP (fun k => !(((List.range ops.length).map (fun k => decide (k < n))).toArray).getD k true) = m - n := by
          intro m
          induction m with
          | zero => intro h1 _; simp
          | succ m ihm =>
            intro h1 h2
            by_cases hmn : n ≤ m
            · rw [List.range_succ, List.countP_append, ihm hmn (by omega)]
              have hlt : m < ops.length := by omega
              have : ¬ m < n := by omega
              simp [hlt, this]
              omega
            · have hnm : n = m + 1 := by omega
              rw [← hnm]
              rw [List.countP_eq_zero.2, Nat.sub_self]
              intro k hk
              have hk' := List.mem_range.1 hk
              have : k < ops.length := by omega
              simp [this, hk']
        have := this ops.length hn (Nat.le_refl _)
        simp only [unl]
        rw [this]
        simp
      rw [hcnt]
      have hsq := hseq
      rw [show ops.length - n = (ops.drop n).length by simp] at hsq
      rw [hlisted]
      refine wpAny_of_seq (ops.drop n) n _ a' w' (fun j => by simp [List.getElem?_drop]) hsq ?_
      have hrel : Rel ρ ⟨tm', s.L⟩ a' w' := ⟨hd, by rw [hs, hfin, tmOf_len], fun t v x h1 h2 => htm t v x h1 (by
        rw [hfin] at h2
        rw [← h2]
        exact tmOf_congr ops rs s.tm _ _ t n fun k hk o _ _ => hall k hk), hr.hr.grow hg⟩
      have := sxOps_sound (fx := fx) hT ops (ops.drop n) ⟨tm', s.L⟩ ρ a' w' hK hrel (St.grow (fx := fx) hg)
      refine wpList_post this fun e a'' w'' ⟨s', ρ', q1, q2⟩ => ?_
      cases e <;> first | exact ⟨s', ρ', q1, q2⟩ | cases q1
    · -- some of the head is still to come
      have hex : ∃ i, i < n ∧ listed.getD i false = false := by
        refine Classical.byContradiction fun hc => hall fun i hi => ?_
        cases hl : listed.getD i false with
        | true => rfl
        | false => exact absurd ⟨i, hi, hl⟩ hc
      obtain ⟨i0, ⟨hi0, hl0⟩, hmin⟩ := least_ex hex
      have hin : ∀ i, i < n → i < listed.size := fun i hi => by rw [inv.size, hsz]; omega
      have hready0 : i0 ∈ Region.ready .any ops.toArray listed := by
        obtain ⟨o0, ho0, he0⟩ := hrdy i0 hi0
        refine mem_ready.2 ⟨getD_in (hin _ hi0) hl0, o0, ho0, fun e he hb => ?_⟩
        have := he0 e he hb
        cases hl : listed.getD e.on false with
        | true => rfl
        | false => have := hmin e.on ⟨by omega, hl⟩; omega
      have hheads : ∀ i, i ∈ Region.ready .any ops.toArray listed → i < n := fun i hi => by
        rcases Nat.lt_or_ge i n with h' | h'
        · exact h'
        · rcases htail with hnl | ⟨hs1, hs2⟩
          · obtain ⟨_, o, ho, _⟩ := mem_ready.1 hi
            have := (Array.getElem?_eq_some_iff.1 ho).1
            rw [hsz] at this
            omega
          · have hnlt : n < ops.toArray.size := by
              obtain ⟨_, o, ho, _⟩ := mem_ready.1 hi
              have := (Array.getElem?_eq_some_iff.1 ho).1
              omega
            exact absurd hi (tail_waits hs1 hs2 hnlt inv _ i0 rfl hi0 (getD_in (hin _ hi0) hl0) i h')
      have step : ∀ i ∈ Region.ready .any ops.toArray listed, wpOp P ops.toArray (fun e a' w' => ∃ s' ρ', Q e s' ∧ Rel ρ' s' a' w' ∧ St fx ρ w ρ' w') i
          (wpAny P .any ops.toArray (fun e a' w' => ∃ s' ρ', Q e s' ∧ Rel ρ' s' a' w' ∧ St fx ρ w ρ' w') (fuel - 1) (listed.setIfInBounds i true)) a' w' ∧ 0 < fuel := fun i hi => by
        have hin' := hheads i hi
        obtain ⟨hun, o, ho, hedge⟩ := mem_ready.1 hi
        have ho' : ops[i]? = some o := by simpa using ho
        have hunf : listed.getD i false = false := getD_both hun
        -- the writers of what it looks at
        have wr : ∀ t, t ∈ o.looksAt ops.toArray → ∀ k, k < n → ∀ ok, ops[k]? = some ok → ok.dst = some t → listed.getD k false = decide (k < i) := fun t ht k hk ok hok hdst => by
          have hok' : ops.toArray[k]? = some ok := by simpa using hok
          rcases Nat.lt_trichotomy k i with hlt | heq | hgt
          · rcases hpair k i ok o hlt hin' hok' ho with ⟨e, he, hb, hon⟩ | hap
            · have := hedge e he hb
              rw [hon] at this
              simp [this, hlt]
            · exact absurd ht ((Oper.apart_spec hap).1 t hdst)
          · subst heq
            simp [hunf]
          · rcases hpair i k o ok hgt hk ho hok' with ⟨e, he, hb, hon⟩ | hap
            · cases hl : listed.getD k false with
              | true =>
                have := inv.closed k ok hok' hl e he hb
                rw [hon, hunf] at this
                cases this
              | false => simp; omega
            · exact absurd ht ((Oper.apart_spec hap).2.2 t hdst)
        have same : ∀ t, t ∈ o.looksAt ops.toArray → (tmOf ops rs s.tm (fun k => listed.getD k false) n)[t]? = (tmOf ops rs s.tm (fun _ => true) i)[t]? := fun t ht => by
          rw [tmOf_congr ops rs s.tm (fun k => listed.getD k false) (fun k => decide (k < i)) t n (fun k hk ok hok hdst => wr t ht k hk ok hok hdst)]
          clear ih htm hready0 hfuel
          have : ∀ m, i ≤ m → tmOf ops rs s.tm (fun k => decide (k < i)) m = tmOf ops rs s.tm (fun _ => true) i := by
            intro m
            induction m with
            | zero => intro h1; have : i = 0 := by omega
                      subst this; rfl
            | succ m ihm =>
              intro h1
              by_cases him : i ≤ m
              · simp only [tmOf]
                rw [if_neg (by simp; omega), ihm him]
              · have : i = m + 1 := by omega
                subst this
                clear ihm h1 him
                have : ∀ j, j ≤ m + 1 → tmOf ops rs s.tm (fun k => decide (k < m + 1)) j = tmOf ops rs s.tm (fun _ => true) j := by
                  intro j
                  induction j with
                  | zero => intro _; rfl
                  | succ j ihj =>
                    intro hj
                    simp only [tmOf]
                    rw [if_pos (by simp; omega), ihj (by omega)]
                    simp
                exact this _ (Nat.le_refl _)
          rw [this n (by omega)]
        have hHR : HR w' ρ s.L := hr.hr.grow hg
        have hev : ∀ t, t ∈ o.looksAt ops.toArray → VR w' ρ (a'.eval (.tmp t)) ((⟨tmOf ops rs s.tm (fun _ => true) i, s.L⟩ : AS).ev (.tmp t)) := fun t ht => by
          simp only [Act.eval, AS.ev]
          rcases Nat.lt_or_ge t s.tm.length with hlt | hge
          · have h1 : (tmOf ops rs s.tm (fun k => listed.getD k false) n)[t]? = some ((tmOf ops rs s.tm (fun k => listed.getD k false) n)[t]'(by rw [tmOf_len]; exact hlt)) := List.getElem?_eq_getElem _
            have h2 : a'.tmps[t]? = some (a'.tmps[t]'(by rw [hs]; exact hlt)) := Array.getElem?_eq_getElem _
            have := htm t _ _ h2 h1
            rw [List.getD_eq_getElem?_getD, ← same t ht, h1, Array.getD_eq_getD_getElem?, h2]
            exact this
          · rw [List.getD_eq_getElem?_getD, List.getElem?_eq_none (by rw [tmOf_len]; exact hge)]
            exact .pr (.any _)
        have hgb : ∀ g want y, o.guard = some (g, want) → gBool ops ⟨tmOf ops rs s.tm (fun _ => true) i, s.L⟩ g = some y → yielded ops.toArray a'.tmps g = y := fun g want y hgd hgy => by
          unfold gBool at hgy
          unfold yielded
          simp only [List.getElem?_toArray]
          split at hgy
          · rename_i hdn; cases hgy; simp [hdn]
          · rename_i d hdn
            have hlook : d ∈ o.looksAt ops.toArray := looks_guard hgd (by simpa using hdn)
            rw [hdn]
            simp only [Option.bind_some]
            rw [← same d hlook] at hgy
            split at hgy
            · rename_i b hb
              cases hgy
              have hlt : d < a'.tmps.size := by rw [hs, ← tmOf_len ops rs s.tm (fun k => listed.getD k false) n]; exact (List.getElem?_eq_some_iff.1 hb).1
              have hv := Array.getElem?_eq_getElem hlt
              have := val_inv (htm d _ _ hv hb)
              rw [hv, this]
            · rename_i v hnb hb
              cases hgy
              have hlt : d < a'.tmps.size := by rw [hs, ← tmOf_len ops rs s.tm (fun k => listed.getD k false) n]; exact (List.getElem?_eq_some_iff.1 hb).1
              have hv := Array.getElem?_eq_getElem hlt
              have := val_inv (htm d _ _ hv hb)
              rw [hv, this]
              cases v <;> first | rfl | exact absurd rfl (hnb _)
            · rename_i hnn
              cases hgy
              have : a'.tmps[d]? = none := by
                rw [Array.getElem?_eq_none_iff, hs, ← tmOf_len ops rs s.tm (fun k => listed.getD k false) n]
                exact List.getElem?_eq_none_iff.1 hnn
              rw [this]
            · cases hgy
        have hpos : unl ops.length (listed.setIfInBounds i true) + 1 = unl ops.length listed := by
          refine countP_set _ _ i (by simp only [hun]; rfl) ?_ (fun k hk => ?_) _ (by omega)
          · rw [Array.getD_eq_getD_getElem?, Array.getElem?_setIfInBounds_self_of_lt (hin _ hin')]; rfl
          · show (!(listed.setIfInBounds i true).getD k true) = !listed.getD k true
            rw [getD_set_ne true (Ne.symm hk)]
        -- what stands behind it
        have cont : ∀ v w'', VR w'' ρ v (rs.getD i .any) → Grow w' w'' → wpAny P .any ops.toArray (fun e a' w' => ∃ s' ρ', Q e s' ∧ Rel ρ' s' a' w' ∧ St fx ρ w ρ' w') (fuel - 1) (listed.setIfInBounds i true) (a'.put o.dst v) w'' := fun v w'' hv hg' => by
          refine ih (fuel - 1) (by omega) _ _ _ (by omega) (inv.set hi hin') (Fr.trans (o' := fun _ => False) hg hg' (fun _ h => False.elim h)) (by cases o.dst <;> exact hd) (by cases o.dst <;> simp [Act.put, hs]) fun t u x h1 h2 => ?_
          by_cases hdt : o.dst = some t
          · have hwv : (tmOf ops rs s.tm (fun k => (listed.setIfInBounds i true).getD k false) n)[t]? = some (rs.getD i .any) := by
              have htl : t < s.tm.length := by
                rw [← tmOf_len ops rs s.tm (fun k => (listed.setIfInBounds i true).getD k false) n]
                exact (List.getElem?_eq_some_iff.1 h2).1
              refine tmOf_wr ops rs s.tm _ t ho' hdt ?_ htl n hin' fun k h3 h4 ok hok hdst => ?_
              · rw [Array.getD_eq_getD_getElem?, Array.getElem?_setIfInBounds_self_of_lt (hin _ hin')]; rfl
              · have hok' : ops.toArray[k]? = some ok := by simpa using hok
                rw [getD_set_ne false (by omega)]
                rcases hpair i k o ok h3 h4 ho hok' with ⟨e, he, hb, hon⟩ | hap
                · cases hl : listed.getD k false with
                  | true =>
                    have := inv.closed k ok hok' hl e he hb
                    rw [hon, hunf] at this
                    cases this
                  | false => rfl
                · exact absurd hdst ((Oper.apart_spec hap).2.1 t hdt)
            rw [hwv] at h2
            cases h2
            rw [hdt] at h1
            simp only [Act.put] at h1
            have htl : t < a'.tmps.size := by
              have := (Array.getElem?_eq_some_iff.1 h1).1
              simpa using this
            rw [Array.getElem?_setIfInBounds_self_of_lt htl] at h1
            cases h1
            exact hv
          · have h3 : a'.tmps[t]? = some u := by
              cases hdd : o.dst with
              | none => rw [hdd] at h1; exact h1
              | some d =>
                rw [hdd] at h1
                simp only [Act.put] at h1
                rw [Array.getElem?_setIfInBounds_ne (fun e => hdt (by rw [hdd, e]))] at h1
                exact h1
            have h4 : (tmOf ops rs s.tm (fun k => listed.getD k false) n)[t]? = some x := by
              rw [← h2]
              refine tmOf_congr ops rs s.tm _ _ t n fun k hk ok hok hdst => ?_
              by_cases hki : k = i
              · subst hki
                rw [ho'] at hok; cases hok
                exact absurd hdst hdt
              · rw [getD_set_ne false (Ne.symm hki)]
            exact (htm t u x h3 h4).grow hg'
        refine ⟨?_, by omega⟩
        unfold wpOp
        rw [ho]
        simp only []
        rcases hfact i hin' o ho' with ⟨hgd, hq⟩ | ⟨hru, g, want, y, hgd, hgy, hne⟩
        · have hw : Region.wanted o (yielded ops.toArray a'.tmps) = true := by
            rcases hgd with hgd | ⟨g, want, hgd, hgy⟩
            · simp [Region.wanted, hgd]
            · simp [Region.wanted, hgd, hgb g want _ hgd hgy]
          rw [if_pos hw]
          refine .inl (wp_of_out ((hq ρ a' w' hHR fun x hx => ?_).mono fun v w'' ⟨h1, h2⟩ => cont v w'' h1 h2))
          cases x with
          | tmp t => exact hev t (looks_ops hx)
          | const v => exact .ofV v
          | global g => exact .pr (.any _)
          | func f => exact .fn f #[] [] rfl (by simp)
        · have hw : Region.wanted o (yielded ops.toArray a'.tmps) = false := by
            simp only [Region.wanted, hgd, hgb g want _ hgd hgy]
            simpa using hne
          rw [if_neg (by simp [hw])]
          exact cont undef w' (by rw [hru]; exact .pr (.val _)) .refl
      cases fuel with
      | zero => exact absurd (step i0 hready0).2 (by omega)
      | succ fuel => exact ⟨fun h0 => (by rw [h0] at hready0; cases hready0), fun i hi => (step i hi).1⟩
  have hw1 : Grow w w.drew := Grow.drew
  refine key _ _ _ _ ?_ ⟨by simp, fun j oj hj hl => ?_, fun t h1 h2 => ?_⟩ hw1 hr.dfr hr.size fun t v x h1 h2 => ?_
  · rw [hsz]
    simp only [unl]
    rw [List.countP_eq_length.2 (fun k hk => ?_)]
    · simp
    · have := List.mem_range.1 hk
      simp [this]
  · rw [getD_replicate_false] at hl; cases hl
  · rw [hsz] at h2; simp [h2]
  · have : ∀ m, tmOf ops rs s.tm (fun k => (Array.replicate ops.toArray.size false).getD k false) m = s.tm := by
      intro m
      induction m with
      | zero => rfl
      | succ m ihm =>
        simp only [tmOf]
        rw [if_neg (by rw [getD_replicate_false]; simp)]
        exact ihm
    rw [this] at h2
    exact (hr.tm t v x h1 h2).grow hw1

theorem awp_draw (hT : TTOk P T) (hm : P.follows .mixedOrders = true) {id : Nat} {ops : List Oper} {Q : Exit → AS → Prop} {s : AS} (n : Nat) (hn : n ≤ ops.length) (hB : headB ops.toArray n = true)
    (htail : n = ops.length ∨ (Region.sinkB .any ops.toArray n = true ∧ Region.chainB .any ops.toArray n = true))
    (hseq : Region.seqB .any ops.toArray (ops.length - n) n ((List.range ops.length).map (fun k => decide (k < n))).toArray = true)
    (h : sxQs P T ops n ops s (fun s' => sxOps P T fx bl ops (ops.drop n) s' (Q .normal))) : awp P fx (.region id ops.toArray true) Q s :=
  awp_drawQ hT hm n hn hB htail hseq (qrun_of hT ops n ops s h)

end
end Go.Pc
