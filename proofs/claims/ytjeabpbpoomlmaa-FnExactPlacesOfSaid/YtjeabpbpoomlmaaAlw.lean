/- The abstract logic, seventh part: regions, control flow, loops, bodies. -/
import Derived.Test.YtjeabpbpoomlmaaAlx
set_option linter.unusedSimpArgs false
set_option linter.unusedVariables false
namespace Go.Pc
open Go

/-- The result goes into its temporary, then on. -/
def PutK (dst : Option Tmp) (K : AS → Prop) (r : AV) (s : AS) : Prop := K (s.put dst r)
def PutQ (dst : Option Tmp) (s : AS) (K : AS → Prop) (r : AV) : Prop := K (s.put dst r)

section
variable (P : Program) (T : TypeId → Ty) (fx bl : List Nat)

/-- One operation. -/
def aOp (o : Oper) (s : AS) (K : AS → Prop) : Prop :=
  match o.op with
  | .alloc e => sAlloc T e s (PutK o.dst K)
  | .box _ x => sBox (s.ev x) s (PutK o.dst K)
  | .buildSlice t n ps => sLit T (bl.contains (o.dst.getD 0)) t n (ps.toList.map fun p => (p.1, s.ev p.2)) s (PutK o.dst K)
  | .makeSlice t l c => sMake T t (s.ev l) (s.ev c) s (PutK o.dst K)
  | .store t x y => sStore T t (s.ev x) (s.ev y) s (PutK o.dst K (.val undef))
  | .call { callee := .builtin .append, args, argTypes } =>
    match args.toList, argTypes.toList with
    | [x, y], [t, t'] => t = t' ∧ sAppend T fx t (s.ev x) (s.ev y) s (PutK o.dst K)
    | _, _ => False
  | .call { callee := .value f, args, .. } => ACall P fx (s.ev f) (args.toList.map s.ev) s (PutK o.dst K)
  | op => qOp P T op s (PutQ o.dst s K)

/-- What a guard's operation has yielded: known to be a bool, known to be none, or not known. -/
def gBool (all : List Oper) (s : AS) (g : Nat) : Option (Option Bool) :=
  match (all[g]?).bind (·.dst) with
  | none => some none
  | some d =>
    match s.tm[d]? with
    | some (.val (.bool b)) => some (some b)
    | some (.val _) => some none
    | none => some none
    | _ => none

def sxOps (all : List Oper) : List Oper → AS → (AS → Prop) → Prop
  | [], s, K => K s
  | o :: rest, s, K =>
    match o.guard with
    | none => aOp P T fx bl o s (fun s' => sxOps all rest s' K)
    | some (g, want) =>
      match gBool all s g with
      | some (some b) => (b = want → aOp P T fx bl o s (fun s' => sxOps all rest s' K)) ∧ (b = !want → sxOps all rest (s.put o.dst (.val undef)) K)
      | some none => sxOps all rest (s.put o.dst (.val undef)) K
      | none => False

def Nxt (all : List Oper) (rest : List Oper) (K : AS → Prop) (s : AS) : Prop := sxOps P T fx bl all rest s K

theorem sxOps_nil (all : List Oper) (s : AS) (K : AS → Prop) : sxOps P T fx bl all [] s K = K s := nrf rfl

theorem sxOps_cons (all : List Oper) (dst : Option Tmp) (op : Op) (ty : TypeId) (pos : String) (after : Array Edge) (rest : List Oper) (s : AS) (K : AS → Prop) :
    sxOps P T fx bl all ({ dst := dst, op := op, type := ty, pos := pos, after := after, guard := none } :: rest) s K = aOp P T fx bl { dst := dst, op := op, type := ty, pos := pos, after := after, guard := none } s (Nxt P T fx bl all rest K) := nrf rfl

/-- A fork: the tested temporary holds the answer itself afterwards. -/
def Br (b : Bool) (X Y : AS → Prop) (f : Bool → AS) : Prop := (b = true → X (f true)) ∧ (b = false → Y (f false))

def AS.tell (s : AS) (d : Nat) (b : Bool) : AS := { s with tm := s.tm.set d (.val (.bool b)) }

theorem Br_true (X Y : AS → Prop) (f : Bool → AS) : Br true X Y f = X (f true) := by simp [Br]
theorem Br_false (X Y : AS → Prop) (f : Bool → AS) : Br false X Y f = Y (f false) := by simp [Br]
theorem br_dec {p : Prop} [Decidable p] {X Y : AS → Prop} {f : Bool → AS} (h1 : p → X (f true)) (h2 : ¬ p → Y (f false)) : Br (decide p) X Y f := ⟨fun h => h1 (by simpa using h), fun h => h2 (by simpa using h)⟩
theorem br_bool {b : Bool} {X Y : AS → Prop} {f : Bool → AS} (h1 : b = true → X (f true)) (h2 : b = false → Y (f false)) : Br b X Y f := ⟨h1, h2⟩

theorem AS.tell_eq {s : AS} {d : Nat} {b : Bool} (h : s.tm[d]? = some (.val (.bool b))) : s.tell d b = s := by
  unfold AS.tell
  have : s.tm.set d (.val (.bool b)) = s.tm := by
    refine List.ext_getElem? fun i => ?_
    rw [List.getElem?_set]
    split
    · rename_i hi; subst hi
      split
      · exact h.symm
      · rename_i hl; rw [List.getElem?_eq_none (by omega)] at h; cases h
    · rfl
  rw [this]

def GGo (all : List Oper) (o : Oper) (rest : List Oper) (K : AS → Prop) (s : AS) : Prop := aOp P T fx bl o s (Nxt P T fx bl all rest K)
def GSkip (all : List Oper) (dst : Option Tmp) (rest : List Oper) (K : AS → Prop) (s : AS) : Prop := Nxt P T fx bl all rest K (s.put dst (.val undef))

/-- What a guard's temporary tells. -/
inductive GV where
  | tells (b : Bool)
  | no
  | bad

def gv : Option AV → GV
  | some (.val (.bool b)) => .tells b
  | some (.val _) => .no
  | none => .no
  | _ => .bad
theorem gv_bool (b : Bool) : gv (some (.val (.bool b))) = .tells b := nrf rfl
theorem gv_undef : gv (some (.val undef)) = .no := nrf rfl
theorem gv_none : gv none = .no := nrf rfl

def gd : Option (Option Tmp) → Option Tmp
  | some d => d
  | none => none
theorem gd_some (d : Option Tmp) : gd (some d) = d := rfl

def dstAt : List Oper → Nat → Option Tmp
  | [], _ => none
  | o :: _, 0 => o.dst
  | _ :: l, n + 1 => dstAt l n
theorem dstAt_zero (dst : Option Tmp) (op : Op) (ty : TypeId) (pos : String) (after : Array Edge) (g : Option (Nat × Bool)) (l : List Oper) : dstAt ({ dst := dst, op := op, type := ty, pos := pos, after := after, guard := g } :: l) 0 = dst := nrf rfl
theorem dstAt_succ (o : Oper) (l : List Oper) (n : Nat) : dstAt (o :: l) (n + 1) = dstAt l n := nrf rfl
theorem dstAt_eq : ∀ (l : List Oper) (n : Nat), (l[n]?).bind (·.dst) = dstAt l n
  | [], n => by simp [dstAt]
  | o :: l, 0 => by simp [dstAt]
  | o :: l, n + 1 => by simp only [List.getElem?_cons_succ, dstAt]; exact dstAt_eq l n

/-- An operation under a guard. -/
def GOp (all : List Oper) (o : Oper) (g : Nat) (want : Bool) (rest : List Oper) (s : AS) (K : AS → Prop) : Prop :=
  match dstAt all g with
  | none => GSkip P T fx bl all o.dst rest K s
  | some d =>
    match gv s.tm[d]? with
    | .tells b =>
      match want with
      | true => Br b (GGo P T fx bl all o rest K) (GSkip P T fx bl all o.dst rest K) (s.tell d)
      | false => Br b (GSkip P T fx bl all o.dst rest K) (GGo P T fx bl all o rest K) (s.tell d)
    | .no => GSkip P T fx bl all o.dst rest K s
    | .bad => False

theorem sxOps_guard (all : List Oper) (dst : Option Tmp) (op : Op) (ty : TypeId) (pos : String) (after : Array Edge) (g : Nat) (want : Bool) (rest : List Oper) (s : AS) (K : AS → Prop) :
    sxOps P T fx bl all ({ dst := dst, op := op, type := ty, pos := pos, after := after, guard := some (g, want) } :: rest) s K = GOp P T fx bl all { dst := dst, op := op, type := ty, pos := pos, after := after, guard := some (g, want) } g want rest s K := by
  simp only [sxOps, GOp, gBool, dstAt_eq]
  cases hd : dstAt all g with
  | none => rfl
  | some d =>
    simp only
    cases hs : s.tm[d]? with
    | none => rfl
    | some x =>
      cases x with
      | val v =>
        cases v with
        | bool b =>
          have ht := AS.tell_eq hs
          cases b <;> cases want <;> (simp [Br, GGo, GSkip, Nxt, ht, gv] <;> exact Iff.rfl)
        | _ => rfl
      | _ => rfl

/-- What is asked of a piece of code in an abstract state. -/
def awp (c : Code) (Q : Exit → AS → Prop) (s : AS) : Prop :=
  ∀ (ρ : Env) (a : Act) (w : World), Rel ρ s a w → c.wp P (fun e a' w' => ∃ s' ρ', Q e s' ∧ Rel ρ' s' a' w' ∧ St fx ρ w ρ' w') a w

def sx : Code → (Exit → AS → Prop) → AS → Prop
  | .skip, Q, s => Q .normal s
  | .region id ops draw, Q, s =>
    match draw with
    | true => awp P fx (.region id ops true) Q s
    | false => sxOps P T fx bl ops.toList ops.toList s (Q .normal)
  | .seq x y, Q, s => sx x (fun e s' =>
    match e with
    | .normal => sx y Q s'
    | .exit i => Q (.exit i) s'
    | .goto l => Q (.goto l) s'
    | .ret => Q .ret s'
    | .panic c => Q (.panic c) s'
    | .outgrown => Q .outgrown s') s
  | .cond c x y, Q, s =>
    match s.ev c with
    | .val (.bool t) => (t = true → sx x Q s) ∧ (t = false → sx y Q s)
    | _ => False
  | .block id c, Q, s => sx c (fun e s' =>
    match e with
    | .normal => Q .normal s'
    | .exit i => if i = id then Q .normal s' else Q (.exit i) s'
    | .goto l => Q (.goto l) s'
    | .ret => Q .ret s'
    | .panic c => Q (.panic c) s'
    | .outgrown => Q .outgrown s') s
  | .loop c, Q, s => awp P fx (.loop c) Q s
  | .exit id, Q, s => Q (.exit id) s
  | .label _, Q, s => Q .normal s
  | .goto l, Q, s => Q (.goto l) s
  | .ret, Q, s => Q .ret s
  | .scope c, Q, s => awp P fx (.scope c) Q s
  | _, _, _ => False

/-- Behind a piece of code that ends normally comes the next. -/
def Then (y : Code) (Q : Exit → AS → Prop) (e : Exit) (s : AS) : Prop :=
  match e with
  | .normal => sx P T fx bl y Q s
  | .exit i => Q (.exit i) s
  | .goto l => Q (.goto l) s
  | .ret => Q .ret s
  | .panic c => Q (.panic c) s
  | .outgrown => Q .outgrown s

def InB (id : Nat) (Q : Exit → AS → Prop) (e : Exit) (s : AS) : Prop :=
  match e with
  | .normal => Q .normal s
  | .exit i => if i = id then Q .normal s else Q (.exit i) s
  | .goto l => Q (.goto l) s
  | .ret => Q .ret s
  | .panic c => Q (.panic c) s
  | .outgrown => Q .outgrown s

variable (Q : Exit → AS → Prop) (s : AS)
theorem sx_skip : sx P T fx bl .skip Q s = Q .normal s := nrf rfl
theorem sx_seq (x y : Code) : sx P T fx bl (.seq x y) Q s = sx P T fx bl x (Then P T fx bl y Q) s := nrf rfl
theorem sx_block (id : Nat) (c : Code) : sx P T fx bl (.block id c) Q s = sx P T fx bl c (InB id Q) s := nrf rfl
theorem sx_region (id : Nat) (ops : List Oper) : sx P T fx bl (.region id ops.toArray false) Q s = sxOps P T fx bl ops ops s (Q .normal) := nrf rfl
theorem sx_draw (id : Nat) (ops : Array Oper) : sx P T fx bl (.region id ops true) Q s = awp P fx (.region id ops true) Q s := nrf rfl
theorem sx_loop (c : Code) : sx P T fx bl (.loop c) Q s = awp P fx (.loop c) Q s := nrf rfl
theorem sx_scope (c : Code) : sx P T fx bl (.scope c) Q s = awp P fx (.scope c) Q s := nrf rfl
theorem sx_exit (id : Nat) : sx P T fx bl (.exit id) Q s = Q (.exit id) s := nrf rfl
theorem sx_ret : sx P T fx bl .ret Q s = Q .ret s := nrf rfl
theorem sx_cond (c : Operand) (x y : Code) : sx P T fx bl (.cond c x y) Q s = (match c with
    | .tmp d =>
      match s.tm.getD d .any with
      | .val (.bool t) => Br t (sx P T fx bl x Q) (sx P T fx bl y Q) (s.tell d)
      | _ => False
    | c => match s.ev c with
      | .val (.bool t) => Br t (sx P T fx bl x Q) (sx P T fx bl y Q) (fun _ => s)
      | _ => False) := by
  cases c with
  | tmp d =>
    simp only [sx, AS.ev]
    cases hx : s.tm.getD d .any with
    | val v =>
      cases v with
      | bool t =>
        have hs : s.tm[d]? = some (.val (.bool t)) := by
          rw [List.getD_eq_getElem?_getD] at hx
          cases hq : s.tm[d]? with
          | none => rw [hq] at hx; cases hx
          | some y => rw [hq] at hx; simp at hx; rw [hx]
        have ht := AS.tell_eq hs
        cases t <;> simp [Br, ht]
      | _ => rfl
    | _ => rfl
  | _ => rfl
end

section
variable {P : Program} {T : TypeId → Ty} {fx bl : List Nat}

theorem aOp_sound (hT : TTOk P T) {o : Oper} {s : AS} {K : AS → Prop} (h : aOp P T fx bl o s K) : AOK P fx o s K := by
  have fin : ∀ {ρ : Env} {a : Act} {w : World} {x : Sem Value} {v : Value} {w' : World} {r : AV} {s' : AS} {ρ' : Env}, x.run P w = .ok v w' → K (s'.put o.dst r) → Rel ρ' s' a w' → VR w' ρ' v r → St fx ρ w ρ' w' →
      Out P (fun v w' => ∃ s' ρ', K s' ∧ Rel ρ' s' (a.put o.dst v) w' ∧ St fx ρ w ρ' w') ((do pure (Next.value (← x)) : Sem Next).run P w) := fun hx hK hr hv hst => by
    simp only [Sem.run_bind, hx, Result.andThen_ok, Sem.run_pure, Out]
    exact ⟨_, _, hK, hr.put o.dst hv, hst⟩
  unfold aOp at h
  split at h
  case h_1 e ho =>
    intro ρ a w hr
    obtain ⟨v, w', r, s', ρ', h1, h2, h3, h4, h5⟩ := sAlloc_sound hT (fx := fx) h hr
    simp only [execOp, ho]
    exact fin h1 h2 h3 h4 h5
  case h_2 e x ho =>
    intro ρ a w hr
    obtain ⟨v, w', r, s', ρ', h1, h2, h3, h4, h5⟩ := sBox_sound (P := P) (fx := fx) (e := e) h hr (hr.ev x)
    simp only [execOp, ho]
    exact fin h1 h2 h3 h4 h5
  case h_3 t n ps ho =>
    intro ρ a w hr
    obtain ⟨v, w', r, s', ρ', h1, h2, h3, h4, h5⟩ := sLit_sound hT (fx := fx) h hr (vs := ps.map fun (i, x) => (i, a.eval x)) (by simp) (fun i v p hv hp => by
      rw [Array.getElem?_map] at hv
      rw [List.getElem?_map] at hp
      cases hq : ps[i]? with
      | none => simp [hq] at hv
      | some q =>
        have hq' : ps.toList[i]? = some q := by simpa using hq
        simp [hq] at hv
        simp [hq'] at hp
        subst hv; subst hp
        exact ⟨rfl, hr.ev _⟩)
    simp only [execOp, ho]
    exact fin h1 h2 h3 h4 h5
  case h_4 t l c ho =>
    intro ρ a w hr
    obtain ⟨v, w', r, s', ρ', h1, h2, h3, h4, h5⟩ := sMake_sound hT (fx := fx) h hr (hr.ev l) (hr.ev c)
    simp only [execOp, ho]
    exact fin h1 h2 h3 h4 h5
  case h_5 t x y ho =>
    intro ρ a w hr
    obtain ⟨w', s', h1, h2, h3, h4⟩ := sStore_sound hT (fx := fx) h hr (hr.ev x) (hr.ev y)
    simp only [execOp, ho, Sem.run_bind, h1, Result.andThen_ok, Sem.run_pure, Out]
    exact ⟨_, _, h2, h3.put o.dst (.pr (.val _)), h4⟩
  case h_6 args ts ho =>
    split at h
    · rename_i x y t t' ha ht
      obtain ⟨rfl, h⟩ := h
      have hargs : args = #[x, y] := by rw [← Array.toArray_toList (xs := args), ha]
      have hts : ts = #[t, t] := by rw [← Array.toArray_toList (xs := ts), ht]
      subst hargs; subst hts
      intro ρ a w hr
      obtain ⟨v, w', r, s', ρ', h1, h2, h3, h4, h5⟩ := sAppend_sound hT (fx := fx) (ty := o.type) h hr (hr.ev x) (hr.ev y)
      simp only [execOp, ho, resolve, Sem.run_bind, Sem.run_pure, Result.andThen_ok, invoke, builtin, List.map_toArray, List.map_cons, List.map_nil, h1, Out]
      exact ⟨_, _, h2, h3.put o.dst h4, h5⟩
    · cases h
  case h_7 f args ts ho =>
    intro ρ a w hr
    have := h ρ a w (a.eval f) (args.map a.eval) hr (hr.ev f) (by simp) (fun i v x hv hx' => by
      rw [Array.getElem?_map] at hv
      rw [List.getElem?_map] at hx'
      cases hq : args[i]? with
      | none => simp [hq] at hv
      | some q =>
        have hq' : args.toList[i]? = some q := by simpa using hq
        simp [hq] at hv
        simp [hq'] at hx'
        subst hv; subst hx'
        exact hr.ev q)
    simp only [execOp, ho, resolve]
    exact this.mono fun v w' ⟨r, s', ρ', h2, h3, h4, h5⟩ => ⟨_, _, h2, h3.put o.dst h4, h5⟩
  case h_8 =>
    obtain ⟨r, hK, hq⟩ := qOp_sound hT h
    exact AOK.of_quiet hq hK

theorem gBool_sound {all : List Oper} {s : AS} {g : Nat} {y : Option Bool} (h : gBool all s g = some y) {ρ : Env} {a : Act} {w : World} (hr : Rel ρ s a w) : yielded all.toArray a.tmps g = y := by
  unfold gBool at h
  unfold yielded
  simp only [List.getElem?_toArray]
  split at h
  · rename_i hd
    cases h
    simp [hd]
  · rename_i d hd
    rw [hd]
    simp only [Option.bind_some]
    split at h
    · rename_i b hb
      cases h
      have hlt : d < a.tmps.size := by rw [hr.size]; exact (List.getElem?_eq_some_iff.1 hb).1
      have hv := Array.getElem?_eq_getElem hlt
      have := val_inv (hr.tm d _ _ hv hb)
      rw [hv, this]
    · rename_i v hnb hb
      cases h
      have hlt : d < a.tmps.size := by rw [hr.size]; exact (List.getElem?_eq_some_iff.1 hb).1
      have hv := Array.getElem?_eq_getElem hlt
      have := val_inv (hr.tm d _ _ hv hb)
      rw [hv, this]
      cases v <;> first | rfl | exact absurd rfl (hnb _)
    · rename_i hn
      cases h
      have : a.tmps[d]? = none := by
        rw [Array.getElem?_eq_none_iff, hr.size]
        exact List.getElem?_eq_none_iff.1 hn
      rw [this]
    · cases h

theorem sxOps_sound (hT : TTOk P T) (all : List Oper) {K : AS → Prop} {ρ0 : Env} {w0 : World} : ∀ (l : List Oper) (s : AS) (ρ : Env) (a : Act) (w : World), sxOps P T fx bl all l s K → Rel ρ s a w → St fx ρ0 w0 ρ w →
    wpList P all.toArray (fun e a' w' => ∃ s' ρ', (match e with | .normal => K s' | _ => False) ∧ Rel ρ' s' a' w' ∧ St fx ρ0 w0 ρ' w') l a w
  | [], s, ρ, a, w, h, hr, hst => ⟨s, ρ, h, hr, hst⟩
  | o :: rest, s, ρ, a, w, h, hr, hst => by
    have go : aOp P T fx bl o s (fun s' => sxOps P T fx bl all rest s' K) → o.wp P a w (wpList P all.toArray (fun e a' w' => ∃ s' ρ', (match e with | .normal => K s' | _ => False) ∧ Rel ρ' s' a' w' ∧ St fx ρ0 w0 ρ' w') rest) (fun e a' w' => ∃ s' ρ', (match e with | .normal => K s' | _ => False) ∧ Rel ρ' s' a' w' ∧ St fx ρ0 w0 ρ' w') := fun ha =>
      wp_of_out ((aOp_sound hT ha ρ a w hr).mono fun v w' ⟨s', ρ', h1, h2, h3⟩ => sxOps_sound hT all rest s' ρ' _ w' h1 h2 (hst.trans h3))
    unfold wpList
    simp only [sxOps] at h
    cases hg : o.guard with
    | none =>
      rw [hg] at h
      rw [if_pos (by simp [Region.wanted, hg])]
      exact .inl (go h)
    | some gw =>
      obtain ⟨g, want⟩ := gw
      rw [hg] at h
      simp only at h
      split at h
      · rename_i b hb
        have hy := gBool_sound hb hr
        by_cases hbw : b = want
        · rw [if_pos (by simp [Region.wanted, hg, hy, hbw])]
          exact .inl (go (h.1 hbw))
        · rw [if_neg (by simp [Region.wanted, hg, hy, hbw])]
          exact sxOps_sound hT all rest _ ρ _ w (h.2 (by cases b <;> cases want <;> simp_all)) (hr.put o.dst (.pr (.val _))) hst
      · rename_i hb
        have hy := gBool_sound hb hr
        rw [if_neg (by simp [Region.wanted, hg, hy])]
        exact sxOps_sound hT all rest _ ρ _ w h (hr.put o.dst (.pr (.val _))) hst
      · cases h

theorem awp.mono {c : Code} {Q Q' : Exit → AS → Prop} {s : AS} (h : awp P fx c Q s) (hq : ∀ e s, Q e s → Q' e s) : awp P fx c Q' s :=
  fun ρ a w hr => wp_mono (h ρ a w hr) fun _ _ _ ⟨s', ρ', h1, h2⟩ => ⟨s', ρ', hq _ _ h1, h2⟩

theorem awp_seq {x y : Code} {Q : Exit → AS → Prop} {s : AS} (h : awp P fx x (fun e s' => match e with
    | .normal => awp P fx y Q s'
    | .exit i => Q (.exit i) s'
    | .goto l => Q (.goto l) s'
    | .ret => Q .ret s'
    | .panic c => Q (.panic c) s'
    | .outgrown => Q .outgrown s') s) : awp P fx (.seq x y) Q s := fun ρ a w hr => by
  refine wp_seq (wp_mono (h ρ a w hr) fun e a' w' ⟨s', ρ', h1, h2, h3⟩ => ?_)
  cases e with
  | normal => exact wp_mono (h1 ρ' a' w' h2) fun e a'' w'' ⟨s'', ρ'', g1, g2, g3⟩ => ⟨s'', ρ'', g1, g2, h3.trans g3⟩
  | _ => exact ⟨s', ρ', h1, h2, h3⟩

theorem sx_sound (hT : TTOk P T) : ∀ (c : Code) (Q : Exit → AS → Prop) (s : AS), sx P T fx bl c Q s → awp P fx c Q s
  | .skip, Q, s, h => fun ρ a w hr => wp_skip ⟨s, ρ, h, hr, .refl⟩
  | .region id ops true, Q, s, h => h
  | .region id ops false, Q, s, h => fun ρ a w hr => by
    refine wp_mono (wp_region_list (id := id) (ops := ops) (Q := fun e a' w' => ∃ s' ρ', (match e with | .normal => Q .normal s' | _ => False) ∧ Rel ρ' s' a' w' ∧ St fx ρ w ρ' w') ?_) fun e a' w' ⟨s', ρ', h1, h2⟩ => ?_
    · have := sxOps_sound hT ops.toList ops.toList s ρ a w h hr (St.refl (fx := fx))
      simpa using this
    · cases e <;> first | exact ⟨s', ρ', h1, h2⟩ | cases h1
  | .seq x y, Q, s, h => awp_seq (awp.mono (sx_sound hT x _ s h) fun e s' h' => by
    cases e <;> first | exact sx_sound hT y Q s' h' | exact h')
  | .cond c x y, Q, s, h => fun ρ a w hr => by
    simp only [sx] at h
    split at h
    · rename_i t hc
      have hv := hr.ev c
      rw [hc] at hv
      have := val_inv hv
      cases t
      · exact wp_cond_false this (sx_sound hT y Q s (h.2 rfl) ρ a w hr)
      · exact wp_cond_true this (sx_sound hT x Q s (h.1 rfl) ρ a w hr)
    · cases h
  | .block id c, Q, s, h => fun ρ a w hr => by
    refine wp_block (wp_mono (sx_sound hT c _ s h ρ a w hr) fun e a' w' ⟨s', ρ', h1, h2⟩ => ?_)
    cases e with
    | exit i =>
      simp only at h1
      simp only [Exit.inBlock]
      split
      · rename_i hi; rw [if_pos hi] at h1; exact ⟨s', ρ', h1, h2⟩
      · rename_i hi; rw [if_neg hi] at h1; exact ⟨s', ρ', h1, h2⟩
    | _ => exact ⟨s', ρ', h1, h2⟩
  | .loop c, Q, s, h => h
  | .exit id, Q, s, h => fun ρ a w hr => wp_exit ⟨s, ρ, h, hr, .refl⟩
  | .label l, Q, s, h => fun ρ a w hr => wp_label ⟨s, ρ, h, hr, .refl⟩
  | .goto l, Q, s, h => fun ρ a w hr => wp_goto ⟨s, ρ, h, hr, .refl⟩
  | .ret, Q, s, h => fun ρ a w hr => wp_ret ⟨s, ρ, h, hr, .refl⟩
  | .scope c, Q, s, h => h
  | .rangeFunc .., Q, s, h => by cases h
  | .refuse _, Q, s, h => by cases h

end
end Go.Pc
