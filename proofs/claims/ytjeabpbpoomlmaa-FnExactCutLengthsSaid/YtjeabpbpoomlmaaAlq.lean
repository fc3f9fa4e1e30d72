/- The abstract logic, second part: the types' table, and the operations that leave the world alone. -/
import Derived.Test.YtjeabpbpoomlmaaAl
set_option linter.unusedSimpArgs false
set_option linter.unusedVariables false
namespace Go.Pc
open Go

inductive SK where
  | int
  | bool

inductive Kd where
  | none
  | flat
  | intk (k : IntKind)
  | bool
  | str
  | struct (fs : List (Nat × TypeId))
  | array (n : Nat) (e : TypeId)
  | slice (e : TypeId)

structure Ty where
  kd : Kd := .none
  size : Nat := 0
  bytes : Nat := 0
  zero : List Value := []
  eqk : List SK := []

def Kd.ok : Kd → Bool
  | .none => false
  | _ => true
def Kd.isAgg : Kd → Bool
  | .struct _ | .array .. => true
  | _ => false

def KdOk (d : TypeDesc) : Kd → Prop
  | .none => False
  | .flat => match d with | .struct _ | .array .. => False | _ => True
  | .intk k => d = .int k
  | .bool => d = .bool
  | .str => d = .string
  | .struct fs => ∃ f : Array Field, d = .struct f ∧ f.toList.map (fun f => (f.offset, f.type)) = fs
  | .array n e => d = .array n e
  | .slice e => d = .slice e

/-- Values of scalar kinds, in a row. -/
def KM : List SK → List Value → Prop
  | [], [] => True
  | .int :: ks, .int .i64 _ :: vs => KM ks vs
  | .bool :: ks, .bool _ :: vs => KM ks vs
  | _, _ => False

def eqV : List Value → List Value → Bool
  | .int _ a :: xs, .int _ b :: ys => decide (a = b) && eqV xs ys
  | .bool a :: xs, .bool b :: ys => decide (a = b) && eqV xs ys
  | [], [] => true
  | _, _ => false

def TyOk (P : Program) (t : TypeId) (y : Ty) : Prop :=
  y.kd.ok = true → ∃ i d z, P.info? t = some i ∧ P.underlying t = some d ∧ KdOk d y.kd ∧ i.size = y.size ∧ i.bytes = y.bytes ∧ i.zero = some z ∧ z.cells.toList = y.zero ∧ y.zero.length = y.size

def EqOk (P : Program) (t : TypeId) (y : Ty) : Prop :=
  y.eqk ≠ [] → P.eqGuardType P.depth t = false ∧ ∀ xs ys : List Value, KM y.eqk xs → KM y.eqk ys → ∀ w, (Op.equalIn 10000 t (.agg xs.toArray) (.agg ys.toArray)).run P w = .ok (eqV xs ys) w

structure TTOk (P : Program) (T : TypeId → Ty) : Prop where
  ty : ∀ t, TyOk P t (T t)
  eq : ∀ t, EqOk P t (T t)

section
variable {P : Program} {T : TypeId → Ty}

theorem run_size (hT : TTOk P T) {t : TypeId} (h : (T t).kd.ok = true) (w : World) : (sizeOf t).run P w = .ok (T t).size w := by
  obtain ⟨i, d, z, h1, h2, h3, h4, _⟩ := hT.ty t h
  simp [sizeOf, typeInfo, h1, h4]

theorem run_agg (hT : TTOk P T) {t : TypeId} (h : (T t).kd.ok = true) (w : World) : (isAgg t).run P w = .ok (T t).kd.isAgg w := by
  obtain ⟨i, d, z, h1, h2, h3, h4, _⟩ := hT.ty t h
  simp only [isAgg, Sem.run_bind, run_underlying h2, Result.andThen_ok]
  cases hk : (T t).kd <;> rw [hk] at h3 <;> simp only [KdOk] at h3
  case flat => cases d <;> simp_all [Kd.isAgg]
  case struct => obtain ⟨f, rfl, _⟩ := h3; rfl
  all_goals (subst h3; rfl)

/-- What is read at a place among cells. -/
def rdC (y : Ty) (cs : List AV) (off : Nat) : Option AV :=
  if y.kd.isAgg then (if off + y.size ≤ cs.length then some (.agg ((cs.drop off).take y.size)) else none) else cs[off]?

theorem add_off (b o n : Nat) : (⟨b, o, none⟩ : Addr).add n = ⟨b, o + n, none⟩ := by
  unfold Addr.add
  split <;> simp_all

theorem run_loadVar (hT : TTOk P T) {t : TypeId} (h : (T t).kd.ok = true) {w : World} {ρ : Env} {cs : List AV} {b o off : Nat} {r : AV}
    (hc : ∀ (j : Nat) x, cs[j]? = some x → ∃ v, w.cell? ⟨b, o + j, none⟩ = some v ∧ VR w ρ v x) (hr : rdC (T t) cs off = some r) :
    ∃ u, (loadVar t ⟨b, o + off, none⟩).run P w = .ok u w ∧ VR w ρ u r := by
  unfold rdC at hr
  simp only [loadVar, Sem.run_bind, run_agg hT h, Result.andThen_ok, Sem.run_ite]
  split at hr
  · rename_i ha
    split at hr
    · rename_i hle
      cases hr
      have hx : ∀ j, j < (T t).size → ∃ v, w.cell? ⟨b, o + (off + j), none⟩ = some v ∧ VR w ρ v (cs[off + j]?.getD .any) := fun j hj => by
        obtain ⟨v, h1, h2⟩ := hc (off + j) _ (List.getElem?_eq_getElem (by omega))
        exact ⟨v, h1, by rw [List.getElem?_eq_getElem (by omega)]; exact h2⟩
      let f : Nat → Value := fun j => (w.cell? ⟨b, o + (off + j), none⟩).getD undef
      have hf : ∀ j, j < (T t).size → w.cell? ((⟨b, o + off, none⟩ : Addr).add j) = some (f j) := fun j hj => by
        obtain ⟨v, h1, _⟩ := hx j hj
        rw [add_off, show o + off + j = o + (off + j) by omega]
        simp [f, h1]
      refine ⟨.agg ((List.range (T t).size).map f).toArray, ?_, ?_⟩
      · rw [if_pos ha]
        simp only [run_size hT h, Result.andThen_ok, run_loadCells w _ _ f hf, Sem.run_pure]
      · refine .agg _ _ (by simp; omega) fun i v x hv hx' => ?_
        have hi : i < (T t).size := by
          rcases Nat.lt_or_ge i (T t).size with h' | h'
          · exact h'
          · simp [h'] at hv
        obtain ⟨v', h1, h2⟩ := hx i hi
        have : v = v' := by
          simp [hi, f, h1] at hv
          exact hv.symm
        subst this
        rw [List.getElem?_take_of_lt hi, List.getElem?_drop] at hx'
        rw [hx'] at h2
        exact h2
    · cases hr
  · rename_i ha
    obtain ⟨v, h1, h2⟩ := hc off r hr
    refine ⟨v, ?_, h2⟩
    rw [if_neg ha]
    simp [h1]

/-! ### Where a pointer leads -/

/-- The cells behind an abstract pointer, and where among them. -/
def cellsAt (s : AS) (x : AV) (K : List AV → Nat → Prop) : Prop :=
  match x with
  | .ip cs => K cs 0
  | .ptr r off => ∃ cs, s.L[r]? = some (.cells cs) ∧ K cs off
  | .vp r k i off => ∃ es, s.L[r]? = some (.vec k es) ∧ ∃ e, es[i]? = some e ∧ K e off
  | _ => False

theorem get_len {α β : Type} {l : List α} {m : List β} (h : l.length = m.length) {i : Nat} {x : β} (hx : m[i]? = some x) : ∃ y, l[i]? = some y := by
  have hi : i < m.length := by
    rcases Nat.lt_or_ge i m.length with h' | h'
    · exact h'
    · simp [List.getElem?_eq_none h'] at hx
  exact ⟨l[i]'(by omega), List.getElem?_eq_getElem _⟩

theorem cellsAt_sound {s : AS} {x : AV} {K : List AV → Nat → Prop} (h : cellsAt s x K) : ∃ cs off, K cs off ∧ ∀ (ρ : Env) (w : World) (v : Value), HR w ρ s.L → VR w ρ v x →
    ∃ b o, v = .pointer (some ⟨b, o + off, none⟩) ∧ ∀ (j : Nat) y, cs[j]? = some y → ∃ u, w.cell? ⟨b, o + j, none⟩ = some u ∧ VR w ρ u y := by
  cases x <;> simp only [cellsAt] at h
  case ip cs =>
    refine ⟨cs, 0, h, fun ρ w v hr hv => ?_⟩
    cases hv with
    | pr hp => cases hp
    | ip b o cs cv ho hlt hcell hread => exact ⟨b, o, rfl, fun j y hy => ⟨_, hcell j y hy, .pr (hread j y hy)⟩⟩
  case ptr r off =>
    obtain ⟨cs, hL, hK⟩ := h
    refine ⟨cs, off, hK, fun ρ w v hr hv => ?_⟩
    cases hv with
    | pr hp => cases hp
    | ptr r off b base hb =>
      obtain ⟨b', c, e, h1, h2, h3, h4⟩ := hr.ent r _ _ hL hb
      cases h1
      refine ⟨b, 0, rfl, fun j y hy => ?_⟩
      have hj : j < c.size := by
        rcases Nat.lt_or_ge j cs.length with h' | h'
        · omega
        · simp [List.getElem?_eq_none h'] at hy
      refine ⟨c[j], ?_, h4 j _ y (by simp [hj]) hy⟩
      simp only [World.cell?, h2]
      simp [hj]
  case vp r k i off =>
    obtain ⟨es, hL, e, he, hK⟩ := h
    refine ⟨e, off, hK, fun ρ w v hr hv => ?_⟩
    cases hv with
    | pr hp => cases hp
    | vp r k i off b base hb =>
      obtain ⟨_, _, h | ⟨b', base', c, ty, h1, h2, h3, h4⟩⟩ := hr.ent r _ _ hL hb
      · cases h.1
      · cases h1
        refine ⟨b, base + i * k, rfl, fun j y hy => ?_⟩
        obtain ⟨u, h5, h6⟩ := h4 i j e y he hy
        refine ⟨u, ?_, .pr h6⟩
        simp only [World.cell?, h2]
        simpa using h5

def qLoad (T : TypeId → Ty) (t : TypeId) (s : AS) (x : AV) (K : AV → Prop) : Prop :=
  (T t).kd.ok = true ∧ cellsAt s x fun cs off => ∃ r, rdC (T t) cs off = some r ∧ K r

theorem qLoad_sound (hT : TTOk P T) {t : TypeId} {s : AS} {x : AV} {K : AV → Prop} (h : qLoad T t s x K) : ∃ r, K r ∧ ∀ (ρ : Env) (w : World) (v : Value), HR w ρ s.L → VR w ρ v x →
    ∃ u, (Instr.loadAt t v).run P w = .ok u w ∧ VR w ρ u r := by
  obtain ⟨hk, h⟩ := h
  obtain ⟨cs, off, ⟨r, hr, hK⟩, hh⟩ := cellsAt_sound h
  refine ⟨r, hK, fun ρ w v hw hv => ?_⟩
  obtain ⟨b, o, rfl, hc⟩ := hh ρ w v hw hv
  obtain ⟨u, h1, h2⟩ := run_loadVar hT hk hc hr
  exact ⟨u, by simp [Instr.loadAt, Instr.sureAddr, h1], h2⟩

/-- A pointer moved on by some cells. -/
def AV.move (x : AV) (n : Nat) (K : AV → Prop) : Prop :=
  match x with
  | .ip cs => n ≤ cs.length ∧ K (.ip (cs.drop n))
  | .ptr r off => K (.ptr r (off + n))
  | .vp r k i off => K (.vp r k i (off + n))
  | _ => False

theorem move_sound {x : AV} {n : Nat} {K : AV → Prop} (h : x.move n K) : ∃ r, K r ∧ ∀ (ρ : Env) (w : World) (v : Value), VR w ρ v x →
    ∃ b o, v = .pointer (some ⟨b, o, none⟩) ∧ VR w ρ (.pointer (some ⟨b, o + n, none⟩)) r := by
  cases x <;> simp only [AV.move] at h
  case ip cs =>
    refine ⟨_, h.2, fun ρ w v hv => ?_⟩
    cases hv with
    | pr hp => cases hp
    | ip b o cs cv ho hlt hcell hread =>
      refine ⟨b, o, rfl, .ip b (o + n) _ (fun j => cv (n + j)) ho hlt (fun j x hx => ?_) fun j x hx => ?_⟩
      · rw [List.getElem?_drop] at hx
        rw [Nat.add_assoc]
        exact hcell _ x hx
      · rw [List.getElem?_drop] at hx
        exact hread _ x hx
  case ptr r off =>
    refine ⟨_, h, fun ρ w v hv => ?_⟩
    cases hv with
    | pr hp => cases hp
    | ptr r off b base hb => exact ⟨b, _, rfl, by rw [Nat.add_assoc]; exact .ptr r (off + n) b base hb⟩
  case vp r k i off =>
    refine ⟨_, h, fun ρ w v hv => ?_⟩
    cases hv with
    | pr hp => cases hp
    | vp r k i off b base hb => exact ⟨b, _, rfl, by rw [Nat.add_assoc]; exact .vp r k i (off + n) b base hb⟩

def qField (T : TypeId → Ty) (st : TypeId) (x : AV) (f : Nat) (K : AV → Prop) : Prop :=
  match (T st).kd with
  | .struct fs => ∃ p, fs[f]? = some p ∧ (T p.2).kd.ok = true ∧ (T p.2).size ≠ 0 ∧ x.move p.1 K
  | _ => False

theorem qField_sound (hT : TTOk P T) {st : TypeId} {x : AV} {f : Nat} {K : AV → Prop} (h : qField T st x f K) : ∃ r, K r ∧ ∀ (ρ : Env) (w : World) (v : Value), VR w ρ v x →
    ∃ u, (Instr.fieldAt st v f).run P w = .ok u w ∧ VR w ρ u r := by
  unfold qField at h
  split at h
  · rename_i fs hk
    obtain ⟨p, hp, hok, hne, hm⟩ := h
    obtain ⟨r, hK, hh⟩ := move_sound hm
    refine ⟨r, hK, fun ρ w v hv => ?_⟩
    obtain ⟨b, o, rfl, hr⟩ := hh ρ w v hv
    obtain ⟨i, d, z, h1, h2, h3, _⟩ := hT.ty st (by rw [hk]; rfl)
    rw [hk] at h3
    obtain ⟨fl, rfl, hfl⟩ := h3
    refine ⟨_, ?_, hr⟩
    have hf : ∃ fd, fl[f]? = some fd ∧ (fd.offset, fd.type) = p := by
      rw [← hfl, List.getElem?_map] at hp
      cases hq : fl.toList[f]? with
      | none => simp [hq] at hp
      | some fd => exact ⟨fd, by simpa using hq, by simpa [hq] using hp⟩
    obtain ⟨fd, h4, rfl⟩ := hf
    simp [Instr.fieldAt, run_underlying h2, h4, Instr.sureAddr, fieldPlace, run_size hT hok, hne, add_off]
  · cases h

/-! ### Slices and arrays, element by element -/

def qIndexAddr (T : TypeId → Ty) (t : TypeId) (x i : AV) (K : AV → Prop) : Prop :=
  match i with
  | .val (.int _ n) => 0 ≤ n ∧
    match (T t).kd with
    | .slice e => (T e).kd.ok = true ∧
      match x with
      | .sl es => ∃ c, es[n.toNat]? = some c ∧ c.length = (T e).size ∧ K (.ip c)
      | .os r k off len => k = (T e).size ∧ n < len ∧ K (.vp r k (off + n.toNat) 0)
      | _ => False
    | .array len e => (T e).kd.ok = true ∧ n < len ∧ x.move (n.toNat * (T e).size) K
    | _ => False
  | _ => False

theorem qIndexAddr_sound (hT : TTOk P T) {t : TypeId} {x i : AV} {K : AV → Prop} (h : qIndexAddr T t x i K) : ∃ r, K r ∧ ∀ (ρ : Env) (w : World) (v vi : Value), VR w ρ v x → VR w ρ vi i →
    ∃ u, (Instr.indexAt t v vi).run P w = .ok u w ∧ VR w ρ u r := by
  unfold qIndexAddr at h
  split at h
  · rename_i ik n
    obtain ⟨h0, h⟩ := h
    have hvi : ∀ {ρ : Env} {w : World} {vi : Value}, VR w ρ vi (.val (.int ik n)) → vi = .int ik n := fun hv => by
      cases hv with | pr hp => cases hp; rfl
    split at h
    · rename_i e hk
      obtain ⟨i, d, z, h1, h2, h3, _⟩ := hT.ty t (by rw [hk]; rfl)
      rw [hk] at h3
      simp only [KdOk] at h3
      subst h3
      obtain ⟨hok, h⟩ := h
      split at h
      · rename_i es
        obtain ⟨c, hc, hl, hK⟩ := h
        refine ⟨_, hK, fun ρ w v vi hv hi => ?_⟩
        have := hvi hi
        subst this
        cases hv with
        | pr hp =>
          cases hp with
          | slnil => simp at hc
          | sl b o k len cp es cv hn hp0 hcp hk' ho hlt hll hcell hread =>
            have hnl : n.toNat < es.length := by
              rcases Nat.lt_or_ge n.toNat es.length with h' | h'
              · exact h'
              · simp [List.getElem?_eq_none h'] at hc
            have hkk : k = (T e).size := by rw [← hll _ _ hc, hl]
            refine ⟨.pointer (some ⟨b, o + n.toNat * k, none⟩), ?_, .ip b (o + n.toNat * k) c (cv n.toNat) ho hlt (fun j x hx => hcell _ j c x hc hx) fun j x hx => hread _ j c x hc hx⟩
            have hlen : n < (len : Int) := by omega
            simp [Instr.indexAt, asIntOf, run_underlying h2, h0, hlen, run_size hT hok, add_off, hkk]
      · rename_i r k off len
        obtain ⟨hkk, hlt, hK⟩ := h
        refine ⟨_, hK, fun ρ w v vi hv hi => ?_⟩
        have := hvi hi
        subst this
        cases hv with
        | pr hp => cases hp
        | osnil => omega
        | osz => omega
        | os r k off len cp b base cs ety fz hr hcp hb hsz =>
          refine ⟨.pointer (some ⟨b, base + (off + n.toNat) * k + 0, none⟩), ?_, .vp r k _ 0 b base hr⟩
          have : base + (off + n.toNat) * k + 0 = base + off * k + n.toNat * k := by rw [Nat.add_mul]; omega
          rw [this]
          simp [Instr.indexAt, asIntOf, run_underlying h2, h0, hlt, run_size hT hok, add_off, hkk]
      · cases h
    · rename_i len e hk
      obtain ⟨i, d, z, h1, h2, h3, _⟩ := hT.ty t (by rw [hk]; rfl)
      rw [hk] at h3
      simp only [KdOk] at h3
      subst h3
      obtain ⟨hok, hlt, hm⟩ := h
      obtain ⟨r, hK, hh⟩ := move_sound hm
      refine ⟨r, hK, fun ρ w v vi hv hi => ?_⟩
      have := hvi hi
      subst this
      obtain ⟨b, o, rfl, hr⟩ := hh ρ w v hv
      refine ⟨_, ?_, hr⟩
      simp [Instr.indexAt, asIntOf, run_underlying h2, h0, hlt, run_size hT hok, add_off, Instr.sureAddr]
    · cases h
  · cases h

def qLen (T : TypeId → Ty) (t : TypeId) (x : AV) (K : AV → Prop) : Prop :=
  match (T t).kd with
  | .slice _ =>
    match x with
    | .sl es => K (.val (.int .i64 es.length))
    | .os _ _ _ n => K (.val (.int .i64 n))
    | .val (.slice _ n _) => K (.val (.int .i64 n))
    | _ => False
  | .str =>
    match x with
    | .val (.string s) => K (.val (.int .i64 s.size))
    | _ => False
  | _ => False

theorem qLen_sound (hT : TTOk P T) {t ty : TypeId} {x : AV} {K : AV → Prop} (h : qLen T t x K) : ∃ r, K r ∧ ∀ (ρ : Env) (w : World) (v : Value), VR w ρ v x →
    ∃ u, (Builtin.len_ #[t] ty #[v]).run P w = .ok u w ∧ VR w ρ u r := by
  unfold qLen at h
  split at h
  · rename_i e hk
    obtain ⟨i, d, z, h1, h2, h3, _⟩ := hT.ty t (by rw [hk]; rfl)
    rw [hk] at h3; simp only [KdOk] at h3; subst h3
    split at h
    · refine ⟨_, h, fun ρ w v hv => ?_⟩
      cases hv with
      | pr hp =>
        cases hp with
        | slnil => exact ⟨_, by simp [Builtin.len_, run_underlying h2, goInt], .pr (.val _)⟩
        | sl b o k n c es cv hn => subst hn; exact ⟨_, by simp [Builtin.len_, run_underlying h2, goInt], .pr (.val _)⟩
    · refine ⟨_, h, fun ρ w v hv => ?_⟩
      cases hv with
      | pr hp => cases hp
      | osnil => exact ⟨_, by simp [Builtin.len_, run_underlying h2, goInt], .pr (.val _)⟩
      | osz => exact ⟨_, by simp [Builtin.len_, run_underlying h2, goInt], .pr (.val _)⟩
      | os => exact ⟨_, by simp [Builtin.len_, run_underlying h2, goInt], .pr (.val _)⟩
    · refine ⟨_, h, fun ρ w v hv => ?_⟩
      cases hv with
      | pr hp => cases hp; exact ⟨_, by simp [Builtin.len_, run_underlying h2, goInt], .pr (.val _)⟩
    · cases h
  · rename_i hk
    obtain ⟨i, d, z, h1, h2, h3, _⟩ := hT.ty t (by rw [hk]; rfl)
    rw [hk] at h3; simp only [KdOk] at h3; subst h3
    split at h
    · refine ⟨_, h, fun ρ w v hv => ?_⟩
      cases hv with
      | pr hp => cases hp; exact ⟨_, by simp [Builtin.len_, run_underlying h2, goInt], .pr (.val _)⟩
    · cases h
  · cases h

/-! ### Parts of slices -/

/-- A bound of a slice expression, if it is told. -/
def bnd (d : Nat) : Option AV → Option Nat
  | none => some d
  | some (.val (.int _ n)) => if 0 ≤ n then some n.toNat else none
  | _ => none

def qSlice (T : TypeId → Ty) (t : TypeId) (x : AV) (lo hi mx : Option AV) (K : AV → Prop) : Prop :=
  mx = none ∧
  match (T t).kd with
  | .slice e => (T e).kd.ok = true ∧
    match x with
    | .sl es => ∃ l, bnd 0 lo = some l ∧ ∃ h, bnd es.length hi = some h ∧ l ≤ h ∧ h ≤ es.length ∧ (∀ c, es[0]? = some c → c.length = (T e).size) ∧ K (.sl ((es.take h).drop l))
    | .os r k off n => k = (T e).size ∧ ∃ l, bnd 0 lo = some l ∧ ∃ h, bnd n hi = some h ∧ l ≤ h ∧ h ≤ n ∧ K (.os r k (off + l) (h - l))
    | _ => False
  | .str =>
    match x with
    | .val (.string s) => ∃ l, bnd 0 lo = some l ∧ ∃ h, bnd s.size hi = some h ∧ l ≤ h ∧ h ≤ s.size ∧ K (.val (.string (s.extract l h)))
    | _ => False
  | _ => False

theorem run_bounds (b : Bool) (len cap : Nat) (lo hi : Option AV) (ol oh : Option Value) {l h : Nat} (ρ : Env) (w : World) (hlo : bnd 0 lo = some l) (hhi : bnd len hi = some h) (hle : l ≤ h) (hc : h ≤ cap)
    (h1 : ∀ x, lo = some x → ∃ v, ol = some v ∧ VR w ρ v x) (h1' : lo = none → ol = none) (h2 : ∀ x, hi = some x → ∃ v, oh = some v ∧ VR w ρ v x) (h2' : hi = none → oh = none) :
    (Instr.sliceBounds b len cap ol oh none).run P w = .ok (l, h, cap) w := by
  have e1 : (ol = none ∧ l = 0) ∨ ∃ kk n, ol = some (.int kk n) ∧ 0 ≤ n ∧ l = n.toNat := by
    cases lo with
    | none => simp only [bnd, Option.some.injEq] at hlo; exact .inl ⟨h1' rfl, hlo.symm⟩
    | some x =>
      obtain ⟨v, rfl, hv⟩ := h1 x rfl
      cases x <;> simp only [bnd] at hlo <;> try (cases hlo; done)
      rename_i v'
      cases v' <;> simp only at hlo <;> try (cases hlo; done)
      rename_i kk n
      split at hlo
      · cases hlo
        cases hv with
        | pr hp => cases hp; exact .inr ⟨kk, n, rfl, by assumption, rfl⟩
      · cases hlo
  have e2 : (oh = none ∧ h = len) ∨ ∃ kk n, oh = some (.int kk n) ∧ 0 ≤ n ∧ h = n.toNat := by
    cases hi with
    | none => simp only [bnd, Option.some.injEq] at hhi; exact .inl ⟨h2' rfl, hhi.symm⟩
    | some x =>
      obtain ⟨v, rfl, hv⟩ := h2 x rfl
      cases x <;> simp only [bnd] at hhi <;> try (cases hhi; done)
      rename_i v'
      cases v' <;> simp only at hhi <;> try (cases hhi; done)
      rename_i kk n
      split at hhi
      · cases hhi
        cases hv with
        | pr hp => cases hp; exact .inr ⟨kk, n, rfl, by assumption, rfl⟩
      · cases hhi
  clear h1 h1' h2 h2' hlo hhi
  rcases e1 with ⟨rfl, rfl⟩ | ⟨k1, n1, rfl, p1, rfl⟩ <;> rcases e2 with ⟨rfl, rfl⟩ | ⟨k2, n2, rfl, p2, rfl⟩
  · simp [Instr.sliceBounds]
  · simp [Instr.sliceBounds, run_sliceBound w k2 n2 cap _ p2 (by omega)]
  · simp [Instr.sliceBounds, run_sliceBound w k1 n1 h _ p1 (by omega)]
  · simp [Instr.sliceBounds, run_sliceBound w k2 n2 cap _ p2 (by omega), run_sliceBound w k1 n1 n2.toNat _ p1 (by omega)]

theorem qSlice_sound (hT : TTOk P T) {t : TypeId} {x : AV} {lo hi mx : Option AV} {K : AV → Prop} (h : qSlice T t x lo hi mx K) : ∃ r, K r ∧ ∀ (ρ : Env) (w : World) (v : Value) (ol oh om : Option Value), VR w ρ v x →
    (∀ x, lo = some x → ∃ v, ol = some v ∧ VR w ρ v x) → (lo = none → ol = none) → (∀ x, hi = some x → ∃ v, oh = some v ∧ VR w ρ v x) → (hi = none → oh = none) → (mx = none → om = none) →
    ∃ u, (Instr.sliceAt t v ol oh om).run P w = .ok u w ∧ VR w ρ u r := by
  obtain ⟨rfl, h⟩ := h
  split at h
  · rename_i e hk
    obtain ⟨hok, h⟩ := h
    obtain ⟨i, d, z, h1, h2, h3, _⟩ := hT.ty t (by rw [hk]; rfl)
    rw [hk] at h3; simp only [KdOk] at h3; subst h3
    split at h
    · rename_i es
      obtain ⟨l, hl, hh, hhi, hle, hle', hsz, hK⟩ := h
      refine ⟨_, hK, fun ρ w v ol oh om hv a1 a2 a3 a4 a5 => ?_⟩
      have := a5 rfl
      subst this
      cases hv with
      | pr hp =>
        cases hp with
        | slnil a c =>
          have hb := run_bounds (P := P) true 0 c lo hi ol oh ρ w hl hhi hle (by simp at hle'; omega) a1 a2 a3 a4
          simp at hle'
          subst hle'
          have : l = 0 := by omega
          subst this
          refine ⟨_, by simp only [Instr.sliceAt, Instr.slice, Sem.run_bind, run_underlying h2, Result.andThen_ok, hb, run_size hT hok, Sem.run_pure]; rfl, ?_⟩
          simp only [List.take_nil, List.drop_nil]
          exact .pr (.slnil _ _)
        | sl b o k n c es cv hn h0 hc hk' ho hlt hll hcell hread =>
          subst hn
          have hb := run_bounds (P := P) true es.length c lo hi ol oh ρ w hl hhi hle (by omega) a1 a2 a3 a4
          have hkk : k = (T e).size := by
            obtain ⟨c0, hc0⟩ : ∃ c0, es[0]? = some c0 := ⟨es[0], List.getElem?_eq_getElem h0⟩
            rw [← hll _ _ hc0, hsz _ hc0]
          refine ⟨_, by simp only [Instr.sliceAt, Instr.slice, Sem.run_bind, run_underlying h2, Result.andThen_ok, hb, run_size hT hok, Sem.run_pure]; rfl, ?_⟩
          have hlen : ((es.take hh).drop l).length = hh - l := by simp; omega
          by_cases hz : hh - l = 0
          · have hnil : (es.take hh).drop l = [] := List.length_eq_zero_iff.1 (by omega)
            rw [hz, hnil]
            exact .pr (.slnil _ _)
          · rw [if_neg (by omega)]
            simp only [Option.map_some, add_off]
            refine .pr (.sl b (o + l * (T e).size) k (hh - l) (c - l) _ (fun i j => cv (l + i) j) hlen (by omega) (by omega) hk' ho hlt (fun i e' he => ?_) (fun i j e' x he hx => ?_) fun i j e' x he hx => ?_)
            all_goals
              rw [List.getElem?_drop] at he
              have hlt' : l + i < hh := by
                rcases Nat.lt_or_ge (l + i) hh with h' | h'
                · exact h'
                · rw [List.getElem?_eq_none (by simp; omega)] at he; cases he
              rw [List.getElem?_take_of_lt hlt'] at he
            · exact hll _ _ he
            · have := hcell _ j _ x he hx
              rw [← hkk, show o + l * k + i * k + j = o + (l + i) * k + j by rw [Nat.add_mul]; omega]
              exact this
            · exact hread _ j _ x he hx
    · rename_i r k off n
      obtain ⟨hkk, l, hl, hh, hhi, hle, hle', hK⟩ := h
      refine ⟨_, hK, fun ρ w v ol oh om hv a1 a2 a3 a4 a5 => ?_⟩
      have := a5 rfl
      subst this
      cases hv with
      | pr hp => cases hp
      | osnil _ _ hr =>
        have hb := run_bounds (P := P) true 0 0 lo hi ol oh ρ w hl hhi hle (by omega) a1 a2 a3 a4
        have e1 : hh = 0 := by omega
        have e2 : l = 0 := by omega
        subst e1; subst e2
        exact ⟨_, by simp only [Instr.sliceAt, Instr.slice, Sem.run_bind, run_underlying h2, Result.andThen_ok, hb, run_size hT hok, Sem.run_pure]; rfl, .osnil r k hr⟩
      | osz r k off a b base hr =>
        have hb := run_bounds (P := P) true 0 0 lo hi ol oh ρ w hl hhi hle (by omega) a1 a2 a3 a4
        have e1 : hh = 0 := by omega
        have e2 : l = 0 := by omega
        subst e1; subst e2
        exact ⟨_, by simp only [Instr.sliceAt, Instr.slice, Sem.run_bind, run_underlying h2, Result.andThen_ok, hb, run_size hT hok, Sem.run_pure]; rfl, .osz r k _ _ b base hr⟩
      | os r k off n c b base cs ety fz hr hcp hb' hsz =>
        have hb := run_bounds (P := P) true n c lo hi ol oh ρ w hl hhi hle (by omega) a1 a2 a3 a4
        refine ⟨_, by simp only [Instr.sliceAt, Instr.slice, Sem.run_bind, run_underlying h2, Result.andThen_ok, hb, run_size hT hok, Sem.run_pure]; rfl, ?_⟩
        by_cases hcl : c = l
        · rw [if_pos hcl]
          have e1 : hh - l = 0 := by omega
          have e2 : c - l = 0 := by omega
          rw [e1, e2]
          exact .osz r k _ _ b base hr
        · rw [if_neg hcl]
          simp only [Option.map_some, add_off, ← hkk]
          rw [show base + off * k + l * k = base + (off + l) * k by rw [Nat.add_mul]; omega]
          refine .os r k (off + l) (hh - l) (c - l) b base cs ety fz hr (by omega) hb' ?_
          rw [show off + l + (c - l) = off + c by omega]
          exact hsz
    · cases h
  · rename_i hk
    obtain ⟨i, d, z, h1, h2, h3, _⟩ := hT.ty t (by rw [hk]; rfl)
    rw [hk] at h3; simp only [KdOk] at h3; subst h3
    split at h
    · rename_i s
      obtain ⟨l, hl, hh, hhi, hle, hle', hK⟩ := h
      refine ⟨_, hK, fun ρ w v ol oh om hv a1 a2 a3 a4 a5 => ?_⟩
      have := a5 rfl
      subst this
      cases hv with
      | pr hp =>
        cases hp
        have hb := run_bounds (P := P) false s.size s.size lo hi ol oh ρ w hl hhi hle hle' a1 a2 a3 a4
        exact ⟨_, by simp [Instr.sliceAt, Instr.slice, run_underlying h2, hb], .pr (.val _)⟩
    · cases h
  · cases h

end
end Go.Pc
