/- The abstract logic, third part: scalar operations, aggregates, and the table of all operations that leave the world alone. -/
import Derived.Test.YtjeabpbpoomlmaaAlq
set_option linter.unusedSimpArgs false
set_option linter.unusedVariables false
namespace Go.Pc
open Go

section
variable {P : Program} {T : TypeId → Ty}

/-! ### Scalars -/

def eqA : List SK → List AV → List AV → Option Bool
  | .int :: ks, .val (.int .i64 a) :: xs, .val (.int .i64 b) :: ys => (eqA ks xs ys).map (decide (a = b) && ·)
  | .bool :: ks, .val (.bool a) :: xs, .val (.bool b) :: ys => (eqA ks xs ys).map (decide (a = b) && ·)
  | [], [], [] => some true
  | _, _, _ => none

def Kd.isSl : Kd → Bool
  | .slice _ => true
  | _ => false

def qBin (T : TypeId → Ty) (op : BinOp) (xt : TypeId) (x y : AV) (K : AV → Prop) : Prop :=
  match x, y with
  | .val (.int k a), .val (.int k' b) =>
    match op with
    | .add => k = k' ∧ K (.val (.int k (k.wrap (a + b))))
    | .sub => k = k' ∧ K (.val (.int k (k.wrap (a - b))))
    | .mul => k = k' ∧ K (.val (.int k (k.wrap (a * b))))
    | .quo => k = k' ∧ b ≠ 0 ∧ K (.val (.int k (k.wrap (a.tdiv b))))
    | .rem => k = k' ∧ b ≠ 0 ∧ K (.val (.int k (a.tmod b)))
    | .and => k = k' ∧ K (.val (.int k (k.wrap (BitVec.ofInt k.bits a &&& BitVec.ofInt k.bits b).toNat)))
    | .or => k = k' ∧ K (.val (.int k (k.wrap (BitVec.ofInt k.bits a ||| BitVec.ofInt k.bits b).toNat)))
    | .xor => k = k' ∧ K (.val (.int k (k.wrap (BitVec.ofInt k.bits a ^^^ BitVec.ofInt k.bits b).toNat)))
    | .andNot => k = k' ∧ K (.val (.int k (k.wrap (BitVec.ofInt k.bits a &&& ~~~ BitVec.ofInt k.bits b).toNat)))
    | .shl => 0 ≤ b ∧ K (.val (.int k (k.wrap (a * 2 ^ min b.toNat k.bits))))
    | .shr => 0 ≤ b ∧ K (.val (.int k (a / 2 ^ min b.toNat k.bits)))
    | .eql => k = k' ∧ K (.val (.bool (decide (a = b))))
    | .neq => k = k' ∧ K (.val (.bool (!decide (a = b))))
    | .lss => k = k' ∧ K (.val (.bool (decide (a < b))))
    | .leq => k = k' ∧ K (.val (.bool (decide (a ≤ b))))
    | .gtr => k = k' ∧ K (.val (.bool (decide (b < a))))
    | .geq => k = k' ∧ K (.val (.bool (decide (b ≤ a))))
  | .val (.string a), .val (.string b) =>
    match op with
    | .add => a.size + b.size ≤ 9223372036854775807 ∧ K (.val (.string (a ++ b)))
    | .eql => K (.val (.bool (decide (a = b))))
    | .neq => K (.val (.bool (!decide (a = b))))
    | _ => False
  | .val (.bool a), .val (.bool b) => (T xt).kd = .bool ∧
    match op with
    | .eql => K (.val (.bool (decide (a = b))))
    | .neq => K (.val (.bool (!decide (a = b))))
    | _ => False
  | .agg xs, .agg ys => (T xt).eqk ≠ [] ∧ ∃ r, eqA (T xt).eqk xs ys = some r ∧
    match op with
    | .eql => K (.val (.bool r))
    | .neq => K (.val (.bool (!r)))
    | _ => False
  | .sl es, .val (.slice none 0 0) => (es ≠ [] ∧ (T xt).kd.isSl = true) ∧
    match op with
    | .eql => K (.val (.bool false))
    | .neq => K (.val (.bool true))
    | _ => False
  | _, _ => False

theorem val_inv {w : World} {ρ : Env} {v u : Value} (h : VR w ρ v (.val u)) : v = u := by
  cases h with | pr hp => cases hp; rfl

theorem eqA_sound : ∀ (ks : List SK) (xs ys : List AV) (r : Bool), eqA ks xs ys = some r → ∀ (w : World) (ρ : Env) (as bs : List Value), as.length = xs.length → bs.length = ys.length →
    (∀ (i : Nat) v x, as[i]? = some v → xs[i]? = some x → VR w ρ v x) → (∀ (i : Nat) v x, bs[i]? = some v → ys[i]? = some x → VR w ρ v x) → KM ks as ∧ KM ks bs ∧ eqV as bs = r := by
  intro ks
  induction ks with
  | nil =>
    intro xs ys r h w ρ as bs ha hb h1 h2
    cases xs <;> cases ys <;> simp [eqA] at h
    subst h
    simp at ha hb
    subst ha; subst hb
    exact ⟨trivial, trivial, rfl⟩
  | cons k ks ih =>
    intro xs ys r h w ρ as bs ha hb h1 h2
    unfold eqA at h
    split at h
    · rename_i ks' a xs' b ys' e1
      cases e1
      cases as with
      | nil => simp at ha
      | cons v as =>
        cases bs with
        | nil => simp at hb
        | cons u bs =>
          have e1 := val_inv (h1 0 v _ rfl rfl)
          have e2 := val_inv (h2 0 u _ rfl rfl)
          subst e1; subst e2
          cases hr : eqA ks xs' ys' with
          | none => simp [hr] at h
          | some r' =>
            simp [hr] at h
            obtain ⟨g1, g2, g3⟩ := ih xs' ys' r' hr w ρ as bs (by simpa using ha) (by simpa using hb) (fun i v x hv hx => h1 (i + 1) v x hv hx) (fun i v x hv hx => h2 (i + 1) v x hv hx)
            exact ⟨g1, g2, by simp only [eqV, g3]; exact h⟩
    · rename_i ks' a xs' b ys' e1
      cases e1
      cases as with
      | nil => simp at ha
      | cons v as =>
        cases bs with
        | nil => simp at hb
        | cons u bs =>
          have e1 := val_inv (h1 0 v _ rfl rfl)
          have e2 := val_inv (h2 0 u _ rfl rfl)
          subst e1; subst e2
          cases hr : eqA ks xs' ys' with
          | none => simp [hr] at h
          | some r' =>
            simp [hr] at h
            obtain ⟨g1, g2, g3⟩ := ih xs' ys' r' hr w ρ as bs (by simpa using ha) (by simpa using hb) (fun i v x hv hx => h1 (i + 1) v x hv hx) (fun i v x hv hx => h2 (i + 1) v x hv hx)
            exact ⟨g1, g2, by simp only [eqV, g3]; exact h⟩
    · rename_i e1; cases e1
    · cases h

theorem decide_beq (a b : Int) : (a == b) = decide (a = b) := by
  rw [Bool.eq_iff_iff]; simp

theorem decide_beqB (a b : Bool) : (a == b) = decide (a = b) := by
  rw [Bool.eq_iff_iff]; simp

theorem decide_beqS (a b : ByteArray) : (a.toList == b.toList) = decide (a = b) := by
  rw [← beq_toListBytes, Bool.eq_iff_iff]
  obtain ⟨⟨x⟩⟩ := a
  obtain ⟨⟨y⟩⟩ := b
  show ((⟨x⟩ : Array UInt8) == ⟨y⟩) = true ↔ _
  simp

theorem run_guard_ne (op : BinOp) (t : TypeId) (x y : Operand) (a b : Value) (w : World) (h : ∀ xs ys, ¬ (a = .agg xs ∧ b = .agg ys)) (h' : ¬ (a = .nilIface ∧ b = .nilIface)) : (eqGuard op t x y a b).run P w = .ok () w := by
  cases op <;> first
    | rfl
    | (simp only [eqGuard, Bool.not_true, Bool.false_eq_true, if_false]
       split
       · exact absurd ⟨rfl, rfl⟩ h'
       · exact absurd ⟨rfl, rfl⟩ (h _ _)
       · rfl)

theorem qBin_sound (hT : TTOk P T) {op : BinOp} {xt : TypeId} {x y : AV} {K : AV → Prop} (h : qBin T op xt x y K) : ∃ r, K r ∧ ∀ (ρ : Env) (w : World) (v u : Value) (ox oy : Operand), VR w ρ v x → VR w ρ u y →
    ∃ z, (do eqGuard op xt ox oy v u; binOp op xt v u : Sem Value).run P w = .ok z w ∧ VR w ρ z r := by
  unfold qBin at h
  split at h
  · rename_i k a k' b
    have key : ∀ {w : World} {ρ : Env} {v u : Value} {ox oy : Operand} {z : Value}, VR w ρ v (.val (.int k a)) → VR w ρ u (.val (.int k' b)) → (binOp op xt (.int k a) (.int k' b)).run P w = .ok z w →
        ∃ z', (do eqGuard op xt ox oy v u; binOp op xt v u : Sem Value).run P w = .ok z' w ∧ VR w ρ z' (.val z) := fun hv hu hr => by
      have e1 := val_inv hv
      have e2 := val_inv hu
      subst e1; subst e2
      exact ⟨_, by simp only [Sem.run_bind, run_guard_ne (P := P) op xt _ _ (.int k a) (.int k' b) _ (by simp) (by simp), Result.andThen_ok, hr], .pr (.val _)⟩
    cases op <;> simp only at h
    case shl =>
      refine ⟨_, h.2, fun ρ w v u ox oy hv hu => key hv hu ?_⟩
      simp only [binOp]
      rw [shift_shl_any _ _ _ _ h.1]; rfl
    case shr =>
      refine ⟨_, h.2, fun ρ w v u ox oy hv hu => key hv hu ?_⟩
      simp only [binOp]
      rw [shift_shr_any _ _ _ _ h.1]; rfl
    case quo =>
      obtain ⟨rfl, hb, hK⟩ := h
      refine ⟨_, hK, fun ρ w v u ox oy hv hu => key hv hu ?_⟩
      simp [binOp, Op.intDiv, hb]
    case rem =>
      obtain ⟨rfl, hb, hK⟩ := h
      refine ⟨_, hK, fun ρ w v u ox oy hv hu => key hv hu ?_⟩
      simp [binOp, Op.intDiv, hb]
    all_goals
      obtain ⟨rfl, hK⟩ := h
      refine ⟨_, hK, fun ρ w v u ox oy hv hu => key hv hu ?_⟩
      simp [binOp, Op.intArith, Op.intBits, Op.intCmp, decide_beq, bne]
  · rename_i a b
    have key : ∀ {w : World} {ρ : Env} {v u : Value} {ox oy : Operand} {z : Value}, VR w ρ v (.val (.string a)) → VR w ρ u (.val (.string b)) → (binOp op xt (.string a) (.string b)).run P w = .ok z w →
        ∃ z', (do eqGuard op xt ox oy v u; binOp op xt v u : Sem Value).run P w = .ok z' w ∧ VR w ρ z' (.val z) := fun hv hu hr => by
      have e1 := val_inv hv
      have e2 := val_inv hu
      subst e1; subst e2
      exact ⟨_, by simp only [Sem.run_bind, run_guard_ne (P := P) op xt _ _ (.string a) (.string b) _ (by simp) (by simp), Result.andThen_ok, hr], .pr (.val _)⟩
    cases op <;> simp only at h
    case add =>
      refine ⟨_, h.2, fun ρ w v u ox oy hv hu => key hv hu ?_⟩
      have : ¬ (((a.size + b.size : Nat) : Int) > IntKind.i64.max) := by
        have hm : IntKind.i64.max = 9223372036854775807 := by decide
        rw [hm]; omega
      simp only [binOp, Op.stringOp]
      rw [if_neg this]; rfl
    all_goals
      refine ⟨_, h, fun ρ w v u ox oy hv hu => key hv hu ?_⟩
      simp [binOp, Op.stringOp, decide_beqS]
  · rename_i a b
    obtain ⟨hk, h⟩ := h
    obtain ⟨i, d, z, h1, h2, h3, _⟩ := hT.ty xt (by rw [hk]; rfl)
    rw [hk] at h3; simp only [KdOk] at h3; subst h3
    have key : ∀ {w : World} {ρ : Env} {v u : Value} {ox oy : Operand} {z : Value}, VR w ρ v (.val (.bool a)) → VR w ρ u (.val (.bool b)) → (binOp op xt (.bool a) (.bool b)).run P w = .ok z w →
        ∃ z', (do eqGuard op xt ox oy v u; binOp op xt v u : Sem Value).run P w = .ok z' w ∧ VR w ρ z' (.val z) := fun hv hu hr => by
      have e1 := val_inv hv
      have e2 := val_inv hu
      subst e1; subst e2
      exact ⟨_, by simp only [Sem.run_bind, run_guard_ne (P := P) op xt _ _ (.bool a) (.bool b) _ (by simp) (by simp), Result.andThen_ok, hr], .pr (.val _)⟩
    cases op <;> simp only at h
    case eql => exact ⟨_, h, fun ρ w v u ox oy hv hu => key hv hu (by rw [run_eql_bool w xt a b h2, decide_beqB])⟩
    case neq => exact ⟨_, h, fun ρ w v u ox oy hv hu => key hv hu (by rw [run_neq_bool w xt a b h2, decide_beqB])⟩
  · rename_i xs ys
    obtain ⟨hne, r, hr, h⟩ := h
    obtain ⟨hg, he⟩ := hT.eq xt hne
    have key : ∀ {w : World} {ρ : Env} {v u : Value}, VR w ρ v (.agg xs) → VR w ρ u (.agg ys) → ∃ as bs, v = .agg as ∧ u = .agg bs ∧ (Op.equalIn 10000 xt (.agg as) (.agg bs)).run P w = .ok r w := fun hv hu => by
      cases hv with
      | pr hp => cases hp
      | agg as _ hs h1 =>
        cases hu with
        | pr hp => cases hp
        | agg bs _ hs' h2 =>
          obtain ⟨g1, g2, g3⟩ := eqA_sound _ xs ys r hr _ _ as.toList bs.toList (by simpa using hs) (by simpa using hs') (fun i v x hv hx => h1 i v x (by simpa using hv) hx) (fun i v x hv hx => h2 i v x (by simpa using hv) hx)
          exact ⟨as, bs, rfl, rfl, by have := he _ _ g1 g2; rw [g3] at this; exact this _⟩
    cases op <;> simp only at h
    case eql =>
      refine ⟨_, h, fun ρ w v u ox oy hv hu => ?_⟩
      obtain ⟨as, bs, rfl, rfl, hh⟩ := key hv hu
      exact ⟨_, by simp only [Sem.run_bind, run_eqGuard_agg w _ _ _ _ _ _ hg, Result.andThen_ok, run_eql_struct, hh], .pr (.val _)⟩
    case neq =>
      refine ⟨_, h, fun ρ w v u ox oy hv hu => ?_⟩
      obtain ⟨as, bs, rfl, rfl, hh⟩ := key hv hu
      exact ⟨_, by simp only [Sem.run_bind, run_eqGuard_agg w _ _ _ _ _ _ hg, Result.andThen_ok, run_neq_struct, hh], .pr (.val _)⟩
  · rename_i es
    obtain ⟨⟨hne, hsl⟩, h⟩ := h
    have hk : ∃ e, (T xt).kd = .slice e := by
      cases hkd : (T xt).kd <;> rw [hkd] at hsl <;> simp [Kd.isSl] at hsl
      exact ⟨_, rfl⟩
    obtain ⟨e, hk⟩ := hk
    obtain ⟨i, d, z, h1, h2, h3, _⟩ := hT.ty xt (by rw [hk]; rfl)
    rw [hk] at h3; simp only [KdOk] at h3; subst h3
    have key : ∀ {w : World} {ρ : Env} {v u : Value}, VR w ρ v (.sl es) → VR w ρ u (.val (.slice none 0 0)) → ∃ a n c, v = .slice (some a) n c ∧ u = .slice none 0 0 ∧ (Op.equalIn 10000 xt (.slice (some a) n c) (.slice none 0 0)).run P w = .ok false w := fun hv hu => by
      have e2 := val_inv hu
      cases hv with
      | pr hp =>
        cases hp with
        | slnil => exact absurd rfl hne
        | sl b o k n c es cv => exact ⟨_, _, _, rfl, e2, by rw [show (10000 : Nat) = 9999 + 1 from rfl, Op.equalIn]; simp only [Sem.run_bind, run_underlying h2, Result.andThen_ok, Sem.run_pure]⟩
    cases op <;> simp only at h
    case eql =>
      refine ⟨_, h, fun ρ w v u ox oy hv hu => ?_⟩
      obtain ⟨a, n, c, rfl, rfl, hh⟩ := key hv hu
      exact ⟨_, by simp [Sem.run_bind, run_guard_ne, binOp, Op.equal, Op.maxDepth, hh], .pr (.val _)⟩
    case neq =>
      refine ⟨_, h, fun ρ w v u ox oy hv hu => ?_⟩
      obtain ⟨a, n, c, rfl, rfl, hh⟩ := key hv hu
      exact ⟨_, by simp [Sem.run_bind, run_guard_ne, binOp, Op.equal, Op.maxDepth, hh], .pr (.val _)⟩
  · cases h

def qUn (op : UnOp) (x : AV) (K : AV → Prop) : Prop :=
  match op, x with
  | .not, .val (.bool b) => K (.val (.bool (!b)))
  | .neg, .val (.int k n) => K (.val (.int k (k.wrap (0 - n))))
  | _, _ => False

theorem qUn_sound {op : UnOp} {x : AV} {K : AV → Prop} (h : qUn op x K) : ∃ r, K r ∧ ∀ (ρ : Env) (w : World) (v : Value), VR w ρ v x →
    ∃ z, (Op.unary op v).run P w = .ok z w ∧ VR w ρ z r := by
  unfold qUn at h
  split at h
  · exact ⟨_, h, fun ρ w v hv => by have := val_inv hv; subst this; exact ⟨_, rfl, .pr (.val _)⟩⟩
  · exact ⟨_, h, fun ρ w v hv => by have := val_inv hv; subst this; exact ⟨_, rfl, .pr (.val _)⟩⟩
  · cases h

def qConv (T : TypeId → Ty) (src dst : TypeId) (x : AV) (K : AV → Prop) : Prop :=
  (T src).kd.ok = true ∧
  match (T dst).kd, x with
  | .intk k, .val (.int _ n) => K (.val (.int k (k.wrap n)))
  | .str, .val (.string s) => (T src).kd = .str ∧ K (.val (.string s))
  | _, _ => False

theorem qConv_sound (hT : TTOk P T) {src dst : TypeId} {x : AV} {K : AV → Prop} (h : qConv T src dst x K) : ∃ r, K r ∧ ∀ (ρ : Env) (w : World) (v : Value), VR w ρ v x →
    ∃ z, (convert src dst v).run P w = .ok z w ∧ VR w ρ z r := by
  obtain ⟨hs, h⟩ := h
  obtain ⟨i, d, z, h1, h2, h3, _⟩ := hT.ty src hs
  split at h
  · rename_i k n a hk
    obtain ⟨i', d', z', h1', h2', h3', _⟩ := hT.ty dst (by rw [hk]; rfl)
    rw [hk] at h3'; simp only [KdOk] at h3'; subst h3'
    refine ⟨_, h, fun ρ w v hv => ?_⟩
    have := val_inv hv; subst this
    refine ⟨_, ?_, .pr (.val _)⟩
    simp only [convert, Sem.run_bind, run_underlying h2, run_underlying h2', Result.andThen_ok]
    rfl
  · rename_i s hk
    obtain ⟨i', d', z', h1', h2', h3', _⟩ := hT.ty dst (by rw [hk]; rfl)
    rw [hk] at h3'; simp only [KdOk] at h3'; subst h3'
    obtain ⟨hk2, h⟩ := h
    rw [hk2] at h3; simp only [KdOk] at h3; subst h3
    refine ⟨_, h, fun ρ w v hv => ?_⟩
    have := val_inv hv; subst this
    refine ⟨_, ?_, .pr (.val _)⟩
    simp only [convert, Sem.run_bind, run_underlying h2, run_underlying h2', Result.andThen_ok]
    rfl
  · cases h

def qMax (x y : AV) (K : AV → Prop) : Prop :=
  match x, y with
  | .val (.int .i64 a), .val (.int .i64 b) => K (.val (.int .i64 (max a b)))
  | _, _ => False
def qMin (x y : AV) (K : AV → Prop) : Prop :=
  match x, y with
  | .val (.int .i64 a), .val (.int .i64 b) => K (.val (.int .i64 (min a b)))
  | _, _ => False

theorem qMax_sound {ts : Array TypeId} {t : TypeId} {x y : AV} {K : AV → Prop} (h : qMax x y K) : ∃ r, K r ∧ ∀ (ρ : Env) (w : World) (v u : Value), VR w ρ v x → VR w ρ u y →
    ∃ z, (Builtin.max_ ts t #[v, u]).run P w = .ok z w ∧ VR w ρ z r := by
  unfold qMax at h
  split at h
  · rename_i a b
    refine ⟨_, h, fun ρ w v u hv hu => ?_⟩
    have := val_inv hv; subst this
    have := val_inv hu; subst this
    refine ⟨_, by rw [run_max_int2], ?_⟩
    rw [show (if b > a then b else a) = max a b by omega]
    exact .pr (.val _)
  · cases h

theorem qMin_sound {ts : Array TypeId} {t : TypeId} {x y : AV} {K : AV → Prop} (h : qMin x y K) : ∃ r, K r ∧ ∀ (ρ : Env) (w : World) (v u : Value), VR w ρ v x → VR w ρ u y →
    ∃ z, (Builtin.min_ ts t #[v, u]).run P w = .ok z w ∧ VR w ρ z r := by
  unfold qMin at h
  split at h
  · rename_i a b
    refine ⟨_, h, fun ρ w v u hv hu => ?_⟩
    have := val_inv hv; subst this
    have := val_inv hu; subst this
    refine ⟨_, by rw [run_min_int2], ?_⟩
    rw [show (if b < a then b else a) = min a b by omega]
    exact .pr (.val _)
  · cases h

/-! ### Aggregates -/

theorem part_sound (hT : TTOk P T) {t : TypeId} (hk : (T t).kd.ok = true) {cs : List AV} {c : Array Value} {off : Nat} {r : AV} (h : rdC (T t) cs off = some r) {ρ : Env} {w : World} (hs : c.size = cs.length)
    (hc : ∀ (i : Nat) v x, c[i]? = some v → cs[i]? = some x → VR w ρ v x) : ∃ z, (part t c off).run P w = .ok z w ∧ VR w ρ z r := by
  unfold rdC at h
  simp only [part, Sem.run_bind, run_agg hT hk, Result.andThen_ok, Sem.run_ite]
  split at h
  · rename_i ha
    rw [if_pos ha]
    split at h
    · cases h
      refine ⟨.agg (c.extract off (off + (T t).size)), by simp only [run_size hT hk, Result.andThen_ok, Sem.run_pure], .agg _ _ (by simp; omega) fun i v x hv hx => ?_⟩
      have hi : i < (T t).size := by
        rcases Nat.lt_or_ge i (T t).size with h' | h'
        · exact h'
        · rw [List.getElem?_eq_none (by simp; omega)] at hx; cases hx
      rw [List.getElem?_take_of_lt hi, List.getElem?_drop] at hx
      rw [Array.getElem?_extract] at hv
      split at hv
      · exact hc _ _ _ hv hx
      · cases hv
    · cases h
  · rename_i ha
    rw [if_neg ha]
    have hlt : off < c.size := by
      rcases Nat.lt_or_ge off cs.length with h' | h'
      · omega
      · rw [List.getElem?_eq_none h'] at h; cases h
    refine ⟨c[off], ?_, hc off _ _ (Array.getElem?_eq_getElem hlt) h⟩
    simp [hlt]

def qPart (T : TypeId → Ty) (xt : TypeId) (x : AV) (f : Nat) (K : AV → Prop) : Prop :=
  match (T xt).kd, x with
  | .struct fs, .agg cs => ∃ p, fs[f]? = some p ∧ (T p.2).kd.ok = true ∧ ∃ r, rdC (T p.2) cs p.1 = some r ∧ K r
  | _, _ => False

theorem qPart_sound (hT : TTOk P T) {xt : TypeId} {x : AV} {f : Nat} {K : AV → Prop} (h : qPart T xt x f K) : ∃ r, K r ∧ ∀ (ρ : Env) (w : World) (v : Value), VR w ρ v x →
    ∃ z, (Instr.field xt v f).run P w = .ok z w ∧ VR w ρ z r := by
  unfold qPart at h
  split at h
  · rename_i fs cs hk
    obtain ⟨p, hp, hok, r, hr, hK⟩ := h
    obtain ⟨i, d, z, h1, h2, h3, _⟩ := hT.ty xt (by rw [hk]; rfl)
    rw [hk] at h3
    obtain ⟨fl, rfl, hfl⟩ := h3
    have hf : ∃ fd, fl[f]? = some fd ∧ (fd.offset, fd.type) = p := by
      rw [← hfl, List.getElem?_map] at hp
      cases hq : fl.toList[f]? with
      | none => simp [hq] at hp
      | some fd => exact ⟨fd, by simpa using hq, by simpa [hq] using hp⟩
    obtain ⟨fd, h4, rfl⟩ := hf
    refine ⟨r, hK, fun ρ w v hv => ?_⟩
    cases hv with
    | pr hp => cases hp
    | agg c _ hs hc =>
      obtain ⟨z, h5, h6⟩ := part_sound hT hok hr hs hc
      exact ⟨z, by simp only [Instr.field, Sem.run_bind, run_underlying h2, Result.andThen_ok, h4, asAgg, Sem.run_pure, h5], h6⟩
  · cases h

def qIndex (T : TypeId → Ty) (xt : TypeId) (x i : AV) (K : AV → Prop) : Prop :=
  match i with
  | .val (.int _ n) => 0 ≤ n ∧
    match (T xt).kd, x with
    | .array len e, .agg cs => (T e).kd.ok = true ∧ n < len ∧ ∃ r, rdC (T e) cs (n.toNat * (T e).size) = some r ∧ K r
    | .str, .val (.string s) => ∃ b, s[n.toNat]? = some b ∧ K (.val (.int .u8 b.toNat))
    | _, _ => False
  | _ => False

theorem qIndex_sound (hT : TTOk P T) {xt : TypeId} {x i : AV} {K : AV → Prop} (h : qIndex T xt x i K) : ∃ r, K r ∧ ∀ (ρ : Env) (w : World) (v vi : Value), VR w ρ v x → VR w ρ vi i →
    ∃ z, (Instr.index xt v vi).run P w = .ok z w ∧ VR w ρ z r := by
  unfold qIndex at h
  split at h
  · rename_i ik n
    obtain ⟨h0, h⟩ := h
    split at h
    · rename_i len e cs hk
      obtain ⟨i, d, z, h1, h2, h3, _⟩ := hT.ty xt (by rw [hk]; rfl)
      rw [hk] at h3; simp only [KdOk] at h3; subst h3
      obtain ⟨hok, hlt, r, hr, hK⟩ := h
      refine ⟨r, hK, fun ρ w v vi hv hi => ?_⟩
      have := val_inv hi; subst this
      cases hv with
      | pr hp => cases hp
      | agg c _ hs hc =>
        obtain ⟨z, h5, h6⟩ := part_sound hT hok hr hs hc
        refine ⟨z, ?_, h6⟩
        simp only [Instr.index, asIntOf, Sem.run_bind, Sem.run_pure, Result.andThen_ok, run_underlying h2]
        rw [if_pos ⟨h0, hlt⟩]
        simp only [Sem.run_bind, run_size hT hok, Result.andThen_ok, h5]
    · rename_i s hk
      obtain ⟨i, d, z, h1, h2, h3, _⟩ := hT.ty xt (by rw [hk]; rfl)
      rw [hk] at h3; simp only [KdOk] at h3; subst h3
      obtain ⟨b, hb, hK⟩ := h
      refine ⟨_, hK, fun ρ w v vi hv hi => ?_⟩
      have := val_inv hi; subst this
      have := val_inv hv; subst this
      refine ⟨_, ?_, .pr (.val _)⟩
      simp only [Instr.index, asIntOf, Sem.run_bind, Sem.run_pure, Result.andThen_ok, run_underlying h2, if_pos h0, hb]
    · cases h
  · cases h

def qExtract (x : AV) (i : Nat) (K : AV → Prop) : Prop :=
  match x with
  | .tup l => ∃ r, l[i]? = some r ∧ K r
  | _ => False

theorem qExtract_sound {x : AV} {i : Nat} {K : AV → Prop} (h : qExtract x i K) : ∃ r, K r ∧ ∀ (ρ : Env) (w : World) (v : Value), VR w ρ v x →
    ∃ z, (Instr.extract v i).run P w = .ok z w ∧ VR w ρ z r := by
  unfold qExtract at h
  split at h
  · rename_i l
    obtain ⟨r, hr, hK⟩ := h
    refine ⟨r, hK, fun ρ w v hv => ?_⟩
    cases hv with
    | pr hp => cases hp
    | tup c _ hs hc =>
      have hlt : i < c.size := by
        rcases Nat.lt_or_ge i l.length with h' | h'
        · omega
        · rw [List.getElem?_eq_none h'] at hr; cases hr
      exact ⟨c[i], by simp [Instr.extract, hlt], hc i _ _ (Array.getElem?_eq_getElem hlt) hr⟩
  · cases h

/-- The cells of a value. -/
def cellsOf : AV → Option (List AV)
  | .agg l => some l
  | .any => none
  | .tup _ => none
  | .val v => if v.oneCell' then some [.val v] else none
  | x => some [x]

theorem cellsOf_sound {x : AV} {l : List AV} (h : cellsOf x = some l) {ρ : Env} {w : World} {v : Value} (hv : VR w ρ v x) :
    v.cells.size = l.length ∧ ∀ (i : Nat) u y, v.cells[i]? = some u → l[i]? = some y → VR w ρ u y := by
  have one : ∀ y, VR w ρ v y → (∀ c, v ≠ .agg c) → l = [y] → v.cells.size = l.length ∧ ∀ (i : Nat) u y, v.cells[i]? = some u → l[i]? = some y → VR w ρ u y := fun y hy hn hl => by
    subst hl
    have hcs : v.cells = #[v] := by cases v <;> first | rfl | exact absurd rfl (hn _)
    rw [hcs]
    refine ⟨rfl, fun i u y' h1 h2 => ?_⟩
    cases i with
    | zero => simp at h1 h2; subst h1; subst h2; exact hy
    | succ i => simp at h1
  cases x <;> simp only [cellsOf] at h
  case any => cases h
  case tup => cases h
  case agg l' =>
    cases h
    cases hv with
    | pr hp => cases hp
    | agg c _ hs hc => exact ⟨hs, hc⟩
  case val v' =>
    split at h
    · cases h
      rename_i ho
      have := val_inv hv; subst this
      exact one _ hv (fun c hc => by subst hc; simp [Value.oneCell'] at ho) rfl
    · cases h
  all_goals
    cases h
    refine one _ hv (fun c hc => ?_) rfl
    subst hc
    cases hv with
    | pr hp => cases hp

def putAt (cells : List AV) (off : Nat) (cs : List AV) : List AV := cells.take off ++ cs ++ cells.drop (off + cs.length)

def fillA (place : Nat → Option (Nat × Nat)) : List AV → List (Nat × AV) → Option (List AV)
  | cells, [] => some cells
  | cells, (i, x) :: rest =>
    match place i, cellsOf x with
    | some (off, size), some cs => if cs.length = size ∧ off + size ≤ cells.length then fillA place (putAt cells off cs) rest else none
    | _, _ => none

theorem foldl_put (l : List Value) (off : Nat) : ∀ (k : Nat) (c : Array Value),
    ((l.zipIdx k).foldl (fun (cs : Array Value) (x : Value × Nat) => cs.setIfInBounds (off + x.2) x.1) c).size = c.size ∧
    ∀ i, off + k + l.length ≤ c.size → ((l.zipIdx k).foldl (fun (cs : Array Value) (x : Value × Nat) => cs.setIfInBounds (off + x.2) x.1) c)[i]? =
      if off + k ≤ i ∧ i < off + k + l.length then l[i - (off + k)]? else c[i]? := by
  induction l with
  | nil => intro k c; simp; intro i _ h1 h2; omega
  | cons v l ih =>
    intro k c
    simp only [List.zipIdx_cons, List.foldl_cons]
    obtain ⟨h1, h2⟩ := ih (k + 1) (c.setIfInBounds (off + k) v)
    refine ⟨by rw [h1]; simp, fun i hi => ?_⟩
    simp only [List.length_cons] at hi
    rw [h2 i (by simp; omega)]
    by_cases hik : i = off + k
    · subst hik
      rw [if_neg (by omega), if_pos (by simp)]
      rw [Array.getElem?_setIfInBounds_self_of_lt (by omega)]
      simp
    · rw [Array.getElem?_setIfInBounds_ne (by omega)]
      by_cases hc : off + (k + 1) ≤ i ∧ i < off + (k + 1) + l.length
      · rw [if_pos hc, if_pos (by simp; omega), show i - (off + k) = (i - (off + (k + 1))) + 1 by omega, List.getElem?_cons_succ]
      · rw [if_neg hc, if_neg (by simp; omega)]

theorem fill_sound (place : Nat → Option (Nat × Nat)) (ρ : Env) (w : World) : ∀ (ps : List (Nat × AV)) (vs : List (Nat × Value)) (cells r : List AV) (c : Array Value), fillA place cells ps = some r →
    vs.length = ps.length → (∀ (i : Nat) v p, vs[i]? = some v → ps[i]? = some p → v.1 = p.1 ∧ VR w ρ v.2 p.2) → c.size = cells.length → (∀ (i : Nat) v x, c[i]? = some v → cells[i]? = some x → VR w ρ v x) →
    ∃ c', Instr.fill place c vs = some c' ∧ c'.size = r.length ∧ ∀ (i : Nat) v x, c'[i]? = some v → r[i]? = some x → VR w ρ v x := by
  intro ps
  induction ps with
  | nil =>
    intro vs cells r c h hl _ hs hc
    simp at hl; subst hl
    simp [fillA] at h; subst h
    exact ⟨c, rfl, hs, hc⟩
  | cons p ps ih =>
    intro vs cells r c h hl hv hs hc
    cases vs with
    | nil => simp at hl
    | cons v vs =>
      obtain ⟨i, x⟩ := p
      obtain ⟨i', u⟩ := v
      obtain ⟨hi, hu⟩ := hv 0 _ _ rfl rfl
      simp only at hi hu
      subst hi
      simp only [fillA] at h
      split at h
      · rename_i off size cs hpl hcs
        split at h
        · rename_i hcond
          obtain ⟨h1, h2⟩ := hcond
          obtain ⟨hus, hur⟩ := cellsOf_sound hcs hu
          simp only [Instr.fill, hpl]
          rw [if_neg (by simp; omega)]
          have hfold := foldl_put u.cells.toList off 0 c
          rw [← Array.foldl_toList]
          rw [Array.toList_zipIdx]
          refine ih vs (putAt cells off cs) r _ h (by simpa using hl) (fun i v p hv' hp => hv (i + 1) v p hv' hp) ?_ fun i v x hv' hx => ?_
          · rw [hfold.1]; simp [putAt]; omega
          · have hsz : off + 0 + u.cells.toList.length ≤ c.size := by simp; omega
            have := hfold.2 i hsz
            simp only [Nat.add_zero] at this
            rw [this] at hv'
            simp only [putAt] at hx
            by_cases hin : off ≤ i ∧ i < off + u.cells.toList.length
            · rw [if_pos hin] at hv'
              simp at hin
              rw [List.append_assoc, List.getElem?_append_right (by simp; omega), List.getElem?_append_left (by simp; omega)] at hx
              refine hur (i - off) v x (by simpa using hv') ?_
              rw [← hx]; congr 1; simp; omega
            · rw [if_neg hin] at hv'
              simp at hin
              refine hc i v x hv' ?_
              rw [← hx]
              by_cases hio : i < off
              · rw [List.append_assoc, List.getElem?_append_left (by simp; omega), List.getElem?_take_of_lt hio]
              · rw [List.getElem?_append_right (by simp; omega), List.getElem?_drop]
                congr 1
                simp
                omega
        · cases h
      · cases h

/-- Built out of parts: a struct, or an array. -/
def qBuild (T : TypeId → Ty) (t : TypeId) (ps : List (Nat × AV)) (K : AV → Prop) : Prop :=
  match (T t).kd with
  | .struct fs => fs.all (fun p => (T p.2).kd.ok) = true ∧ ∃ r, fillA (fun i => (fs[i]?).map fun p => (p.1, (T p.2).size)) ((T t).zero.map AV.val) ps = some r ∧ K (.agg r)
  | .array _ e => (T e).kd.ok = true ∧ ∃ r, fillA (fun i => some (i * (T e).size, (T e).size)) ((T t).zero.map AV.val) ps = some r ∧ K (.agg r)
  | _ => False

theorem zero_sound {w : World} {ρ : Env} {z : Value} {l : List Value} (h : z.cells.toList = l) : z.cells.size = (l.map AV.val).length ∧ ∀ (i : Nat) v x, z.cells[i]? = some v → (l.map AV.val)[i]? = some x → VR w ρ v x := by
  subst h
  refine ⟨by simp, fun i v x hv hx => ?_⟩
  rw [List.getElem?_map] at hx
  have : z.cells.toList[i]? = some v := by simpa using hv
  rw [this] at hx
  simp at hx; subst hx
  exact .pr (.val _)

theorem run_fieldsM (hT : TTOk P T) (w : World) : ∀ (fl : List Field), fl.all (fun f => (T f.type).kd.ok) = true →
    (fl.mapM fun f => Functor.map (Prod.mk f.offset) (sizeOf f.type)).run P w = .ok (fl.map fun f => (f.offset, (T f.type).size)) w := by
  intro fl
  induction fl with
  | nil => intro _; rfl
  | cons f fl ih =>
    intro h
    simp only [List.all_cons, Bool.and_eq_true] at h
    simp only [List.mapM_cons, Sem.run_bind, Sem.run_map, run_size hT h.1, Result.andThen_ok, ih h.2, Sem.run_pure, List.map_cons]

theorem qBuild_sound (hT : TTOk P T) {t : TypeId} {ps : List (Nat × AV)} {K : AV → Prop} (h : qBuild T t ps K) : ∃ r, K r ∧ ∀ (ρ : Env) (w : World) (vs : Array (Nat × Value)), vs.size = ps.length →
    (∀ (i : Nat) v p, vs[i]? = some v → ps[i]? = some p → v.1 = p.1 ∧ VR w ρ v.2 p.2) → ∃ z, (Instr.build t vs).run P w = .ok z w ∧ VR w ρ z r := by
  unfold qBuild at h
  split at h
  · rename_i fs hk
    obtain ⟨hall, r, hr, hK⟩ := h
    obtain ⟨i, d, z, h1, h2, h3, h4, h5, h6, h7, _⟩ := hT.ty t (by rw [hk]; rfl)
    rw [hk] at h3
    obtain ⟨fl, rfl, hfl⟩ := h3
    refine ⟨_, hK, fun ρ w vs hl hv => ?_⟩
    obtain ⟨c1, c2⟩ := zero_sound (w := w) (ρ := ρ) h7
    obtain ⟨c', f1, f2, f3⟩ := fill_sound _ ρ w ps vs.toList _ r z.cells hr (by simpa using hl) (fun i v p a b => hv i v p (by simpa using a) b) c1 c2
    refine ⟨.agg c', ?_, .agg _ _ f2 f3⟩
    have hm := run_fieldsM hT w fl.toList (by
      rw [← hfl, List.all_map] at hall
      exact hall)
    have hpl : (fun x : Nat => ((fl.toList.map fun f => (f.offset, (T f.type).size)).toArray)[x]?) = fun i => (fs[i]?).map fun p => (p.1, (T p.2).size) := by
      funext i
      rw [← hfl]
      simp only [List.getElem?_toArray, List.getElem?_map, Option.map_map]
      rfl
    simp only [Instr.build, Sem.run_bind, zeroValue, typeInfo, run_program, Result.andThen_ok, h1, Sem.run_pure, h6, run_underlying h2, Array.mapM_eq_mapM_toList, bind_pure_comp, Sem.run_map, hm]
    rw [hpl, f1]
    rfl
  · rename_i n e hk
    obtain ⟨hok, r, hr, hK⟩ := h
    obtain ⟨i, d, z, h1, h2, h3, h4, h5, h6, h7, _⟩ := hT.ty t (by rw [hk]; rfl)
    rw [hk] at h3; simp only [KdOk] at h3; subst h3
    refine ⟨_, hK, fun ρ w vs hl hv => ?_⟩
    obtain ⟨c1, c2⟩ := zero_sound (w := w) (ρ := ρ) h7
    obtain ⟨c', f1, f2, f3⟩ := fill_sound _ ρ w ps vs.toList _ r z.cells hr (by simpa using hl) (fun i v p a b => hv i v p (by simpa using a) b) c1 c2
    refine ⟨.agg c', ?_, .agg _ _ f2 f3⟩
    simp only [Instr.build, Sem.run_bind, zeroValue, typeInfo, run_program, Result.andThen_ok, h1, Sem.run_pure, h6, run_underlying h2, run_size hT hok]
    rw [f1]
    rfl
  · cases h

/-! ### All of them -/

/-- Calls that hand back one and the same abstract value, and leave memory alone but for new blocks. -/
def QCall (P : Program) (f : AV) (args : List AV) (r : AV) : Prop :=
  ∀ (ρ : Env) (w : World) (L : List OB) (vf : Value) (vs : Array Value), HR w ρ L → VR w ρ vf f → vs.size = args.length → (∀ (i : Nat) v x, vs[i]? = some v → args[i]? = some x → VR w ρ v x) →
    Out P (fun v w' => VR w' ρ v r ∧ Grow w w') ((do let d ← Deferred.ofValue vf vs; invoke d.target d.args : Sem Next).run P w)

/-- One of two values, as a bool tells. -/
def Pk (t : Bool) (x y : AV) (K : AV → Prop) : Prop := (t = true → K x) ∧ (t = false → K y)
theorem Pk_true (x y : AV) (K : AV → Prop) : Pk true x y K = K x := by simp [Pk]
theorem Pk_false (x y : AV) (K : AV → Prop) : Pk false x y K = K y := by simp [Pk]
theorem pk_dec {p : Prop} [Decidable p] {x y : AV} {K : AV → Prop} (h1 : p → K x) (h2 : ¬ p → K y) : Pk (decide p) x y K := ⟨fun h => h1 (by simpa using h), fun h => h2 (by simpa using h)⟩
theorem pk_bool {b : Bool} {x y : AV} {K : AV → Prop} (h1 : b = true → K x) (h2 : b = false → K y) : Pk b x y K := ⟨h1, h2⟩

def qOp (P : Program) (T : TypeId → Ty) (o : Op) (s : AS) (K : AV → Prop) : Prop :=
  match o with
  | .move x | .assign x => K (s.ev x)
  | .pick c a b =>
    match s.ev c with
    | .val (.bool t) => Pk t (s.ev a) (s.ev b) K
    | _ => False
  | .load t x => qLoad T t s (s.ev x) K
  | .nilCheck x => cellsAt s (s.ev x) fun _ _ => K (s.ev x)
  | .binOp op xt x y _ => qBin T op xt (s.ev x) (s.ev y) K
  | .unOp op _ x => qUn op (s.ev x) K
  | .convert src dst x => qConv T src dst (s.ev x) K
  | .slice t x lo hi mx => qSlice T t (s.ev x) (lo.map s.ev) (hi.map s.ev) (mx.map s.ev) K
  | .fieldAddr t x f => qField T t (s.ev x) f K
  | .field t x f => qPart T t (s.ev x) f K
  | .indexAddr t x i => qIndexAddr T t (s.ev x) (s.ev i) K
  | .index t x i => qIndex T t (s.ev x) (s.ev i) K
  | .extract x i => qExtract (s.ev x) i K
  | .build t ps => qBuild T t (ps.toList.map fun p => (p.1, s.ev p.2)) K
  | .makeFunc (.func f) first caps => first = #[] ∧ K (.fn f (caps.toList.map s.ev))
  | .call { callee := .builtin .len, args, argTypes } =>
    match args.toList, argTypes.toList with
    | [x], [t] => qLen T t (s.ev x) K
    | _, _ => False
  | .call { callee := .builtin .max, args, .. } =>
    match args.toList with
    | [x, y] => qMax (s.ev x) (s.ev y) K
    | _ => False
  | .call { callee := .builtin .min, args, .. } =>
    match args.toList with
    | [x, y] => qMin (s.ev x) (s.ev y) K
    | _ => False
  | .call { callee := .value f, args, .. } => ∃ r, QCall P (s.ev f) (args.toList.map s.ev) r ∧ K r
  | _ => False

theorem out_value {Φ : Value → World → Prop} {x : Sem Value} {u : Value} {w : World} (h : x.run P w = .ok u w) (hh : Φ u w) : Out P Φ ((do pure (Next.value (← x)) : Sem Next).run P w) := by
  simp only [Sem.run_bind, h, Result.andThen_ok, Sem.run_pure, Out]
  exact hh

theorem qOp_sound (hT : TTOk P T) {o : Oper} {s : AS} {K : AV → Prop} (h : qOp P T o.op s K) : ∃ r, K r ∧ QOK P o s r := by
  unfold qOp at h
  split at h
  case h_1 x ho => exact ⟨_, h, fun ρ a w hw hx => by simp only [execOp, ho]; exact ⟨hx x (by simp [ho, Op.operands]), .refl⟩⟩
  case h_2 x ho => exact ⟨_, h, fun ρ a w hw hx => by simp only [execOp, ho]; exact ⟨hx x (by simp [ho, Op.operands]), .refl⟩⟩
  case h_3 c x y ho =>
    split at h
    · rename_i t hc
      cases t
      · refine ⟨_, h.2 rfl, fun ρ a w hw hx => ?_⟩
        have h1 := hx c (by simp [ho, Op.operands])
        rw [hc] at h1
        have := val_inv h1
        simp only [execOp, ho, this, asBool, Sem.run_bind, Sem.run_pure, Result.andThen_ok]
        show VR _ _ _ _ ∧ Grow _ _
        exact ⟨hx y (by simp [ho, Op.operands]), .refl⟩
      · refine ⟨_, h.1 rfl, fun ρ a w hw hx => ?_⟩
        have h1 := hx c (by simp [ho, Op.operands])
        rw [hc] at h1
        have := val_inv h1
        simp only [execOp, ho, this, asBool, Sem.run_bind, Sem.run_pure, Result.andThen_ok]
        show VR _ _ _ _ ∧ Grow _ _
        exact ⟨hx x (by simp [ho, Op.operands]), .refl⟩
    · cases h
  case h_4 t x ho =>
    obtain ⟨r, hK, hh⟩ := qLoad_sound hT h
    refine ⟨r, hK, fun ρ a w hw hx => ?_⟩
    obtain ⟨u, h1, h2⟩ := hh ρ w _ hw (hx x (by simp [ho, Op.operands]))
    simp only [execOp, ho]
    exact out_value h1 ⟨h2, .refl⟩
  case h_5 x ho =>
    obtain ⟨cs, off, hK, hh⟩ := cellsAt_sound h
    refine ⟨_, hK, fun ρ a w hw hx => ?_⟩
    have hv := hx x (by simp [ho, Op.operands])
    obtain ⟨b, o', he, _⟩ := hh ρ w _ hw hv
    rw [he] at hv
    simp only [execOp, ho, he]
    show VR _ _ _ _ ∧ Grow _ _
    exact ⟨hv, .refl⟩
  case h_6 op xt x y _ ho =>
    obtain ⟨r, hK, hh⟩ := qBin_sound hT h
    refine ⟨r, hK, fun ρ a w hw hx => ?_⟩
    obtain ⟨u, h1, h2⟩ := hh ρ w _ _ x y (hx x (by simp [ho, Op.operands])) (hx y (by simp [ho, Op.operands]))
    simp only [execOp, ho]
    exact out_value h1 ⟨h2, .refl⟩
  case h_7 op t x ho =>
    obtain ⟨r, hK, hh⟩ := qUn_sound (P := P) h
    refine ⟨r, hK, fun ρ a w hw hx => ?_⟩
    obtain ⟨u, h1, h2⟩ := hh ρ w _ (hx x (by simp [ho, Op.operands]))
    simp only [execOp, ho]
    exact out_value h1 ⟨h2, .refl⟩
  case h_8 src dst x ho =>
    obtain ⟨r, hK, hh⟩ := qConv_sound hT h
    refine ⟨r, hK, fun ρ a w hw hx => ?_⟩
    obtain ⟨u, h1, h2⟩ := hh ρ w _ (hx x (by simp [ho, Op.operands]))
    simp only [execOp, ho]
    exact out_value h1 ⟨h2, .refl⟩
  case h_9 t x lo hi mx ho =>
    obtain ⟨r, hK, hh⟩ := qSlice_sound hT h
    refine ⟨r, hK, fun ρ a w hw hx => ?_⟩
    obtain ⟨u, h1, h2⟩ := hh ρ w _ (lo.map a.eval) (hi.map a.eval) (mx.map a.eval) (hx x (by simp [ho, Op.operands]))
      (fun y hy => by
        cases lo with
        | none => cases hy
        | some l => cases hy; exact ⟨_, rfl, hx l (by simp [ho, Op.operands])⟩) (fun hn => by cases lo <;> first | rfl | cases hn)
      (fun y hy => by
        cases hi with
        | none => cases hy
        | some l => cases hy; exact ⟨_, rfl, hx l (by simp [ho, Op.operands])⟩) (fun hn => by cases hi <;> first | rfl | cases hn)
      (fun hn => by cases mx <;> first | rfl | cases hn)
    simp only [execOp, ho]
    exact out_value h1 ⟨h2, .refl⟩
  case h_10 t x f ho =>
    obtain ⟨r, hK, hh⟩ := qField_sound hT h
    refine ⟨r, hK, fun ρ a w hw hx => ?_⟩
    obtain ⟨u, h1, h2⟩ := hh ρ w _ (hx x (by simp [ho, Op.operands]))
    simp only [execOp, ho]
    exact out_value h1 ⟨h2, .refl⟩
  case h_11 t x f ho =>
    obtain ⟨r, hK, hh⟩ := qPart_sound hT h
    refine ⟨r, hK, fun ρ a w hw hx => ?_⟩
    obtain ⟨u, h1, h2⟩ := hh ρ w _ (hx x (by simp [ho, Op.operands]))
    simp only [execOp, ho]
    exact out_value h1 ⟨h2, .refl⟩
  case h_12 t x i ho =>
    obtain ⟨r, hK, hh⟩ := qIndexAddr_sound hT h
    refine ⟨r, hK, fun ρ a w hw hx => ?_⟩
    obtain ⟨u, h1, h2⟩ := hh ρ w _ _ (hx x (by simp [ho, Op.operands])) (hx i (by simp [ho, Op.operands]))
    simp only [execOp, ho]
    exact out_value h1 ⟨h2, .refl⟩
  case h_13 t x i ho =>
    obtain ⟨r, hK, hh⟩ := qIndex_sound hT h
    refine ⟨r, hK, fun ρ a w hw hx => ?_⟩
    obtain ⟨u, h1, h2⟩ := hh ρ w _ _ (hx x (by simp [ho, Op.operands])) (hx i (by simp [ho, Op.operands]))
    simp only [execOp, ho]
    exact out_value h1 ⟨h2, .refl⟩
  case h_14 x i ho =>
    obtain ⟨r, hK, hh⟩ := qExtract_sound (P := P) h
    refine ⟨r, hK, fun ρ a w hw hx => ?_⟩
    obtain ⟨u, h1, h2⟩ := hh ρ w _ (hx x (by simp [ho, Op.operands]))
    simp only [execOp, ho]
    exact out_value h1 ⟨h2, .refl⟩
  case h_15 t ps ho =>
    obtain ⟨r, hK, hh⟩ := qBuild_sound hT h
    refine ⟨r, hK, fun ρ a w hw hx => ?_⟩
    obtain ⟨u, h1, h2⟩ := hh ρ w (ps.map fun (i, x) => (i, a.eval x)) (by simp) (fun i v p hv hp => by
      rw [Array.getElem?_map] at hv
      rw [List.getElem?_map] at hp
      cases hq : ps[i]? with
      | none => simp [hq] at hv
      | some q =>
        have hq' : ps.toList[i]? = some q := by simpa using hq
        simp [hq] at hv
        simp [hq'] at hp
        subst hv; subst hp
        refine ⟨rfl, hx q.2 ?_⟩
        simp only [ho, Op.operands, List.mem_toArray, List.mem_map]
        exact ⟨q, List.mem_of_getElem? hq', rfl⟩)
    simp only [execOp, ho]
    exact out_value h1 ⟨h2, .refl⟩
  case h_16 f first caps ho =>
    obtain ⟨rfl, hK⟩ := h
    refine ⟨_, hK, fun ρ a w hw hx => ?_⟩
    simp only [execOp, ho]
    simp only [Instr.makeFunc, Sem.run_bind, Sem.run_pure, Result.andThen_ok, List.map_toArray, List.map_nil]
    refine And.intro (.fn f (caps.map a.eval) _ (by simp) fun i v x hv hx' => ?_) .refl
    rw [Array.getElem?_map] at hv
    rw [List.getElem?_map] at hx'
    cases hq : caps[i]? with
    | none => simp [hq] at hv
    | some q =>
      have hq' : caps.toList[i]? = some q := by simpa using hq
      simp [hq] at hv
      simp [hq'] at hx'
      subst hv; subst hx'
      refine hx q ?_
      simp only [ho, Op.operands, Array.mem_append]
      exact .inr (Array.mem_of_getElem? hq)
  case h_17 args ts ho =>
    split at h
    · rename_i x t ha ht
      have hargs : args = #[x] := by rw [← Array.toArray_toList (xs := args), ha]
      have hts : ts = #[t] := by rw [← Array.toArray_toList (xs := ts), ht]
      subst hargs; subst hts
      obtain ⟨r, hK, hh⟩ := qLen_sound hT (ty := o.type) h
      refine ⟨r, hK, fun ρ a w hw hx => ?_⟩
      obtain ⟨u, h1, h2⟩ := hh ρ w _ (hx x (by simp [ho, Op.operands, Call.operands]))
      simp only [execOp, ho, resolve, Sem.run_bind, Sem.run_pure, Result.andThen_ok, invoke, builtin, List.map_toArray, List.map_cons, List.map_nil, h1]
      exact And.intro h2 .refl
    · cases h
  case h_18 args ts ho =>
    split at h
    · rename_i x y ha
      have hargs : args = #[x, y] := by rw [← Array.toArray_toList (xs := args), ha]
      subst hargs
      obtain ⟨r, hK, hh⟩ := qMax_sound (P := P) (ts := ts) (t := o.type) h
      refine ⟨r, hK, fun ρ a w hw hx => ?_⟩
      obtain ⟨u, h1, h2⟩ := hh ρ w _ _ (hx x (by simp [ho, Op.operands, Call.operands])) (hx y (by simp [ho, Op.operands, Call.operands]))
      simp only [execOp, ho, resolve, Sem.run_bind, Sem.run_pure, Result.andThen_ok, invoke, builtin, List.map_toArray, List.map_cons, List.map_nil, h1]
      exact And.intro h2 .refl
    · cases h
  case h_19 args ts ho =>
    split at h
    · rename_i x y ha
      have hargs : args = #[x, y] := by rw [← Array.toArray_toList (xs := args), ha]
      subst hargs
      obtain ⟨r, hK, hh⟩ := qMin_sound (P := P) (ts := ts) (t := o.type) h
      refine ⟨r, hK, fun ρ a w hw hx => ?_⟩
      obtain ⟨u, h1, h2⟩ := hh ρ w _ _ (hx x (by simp [ho, Op.operands, Call.operands])) (hx y (by simp [ho, Op.operands, Call.operands]))
      simp only [execOp, ho, resolve, Sem.run_bind, Sem.run_pure, Result.andThen_ok, invoke, builtin, List.map_toArray, List.map_cons, List.map_nil, h1]
      exact And.intro h2 .refl
    · cases h
  case h_20 f args ts ho =>
    obtain ⟨r, hq, hK⟩ := h
    refine ⟨r, hK, fun ρ a w hw hx => ?_⟩
    have := hq ρ w s.L (a.eval f) (args.map a.eval) hw (hx f (by simp [ho, Op.operands, Call.operands])) (by simp) (fun i v x hv hx' => by
      rw [Array.getElem?_map] at hv
      rw [List.getElem?_map] at hx'
      cases hq : args[i]? with
      | none => simp [hq] at hv
      | some q =>
        have hq' : args.toList[i]? = some q := by simpa using hq
        simp [hq] at hv
        simp [hq'] at hx'
        subst hv; subst hx'
        refine hx q ?_
        simp only [ho, Op.operands, Call.operands, Array.mem_append]
        exact .inr (Array.mem_of_getElem? hq))
    simpa only [execOp, ho, resolve] using this
  case h_21 => cases h

end
end Go.Pc
