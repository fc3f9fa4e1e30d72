/- The abstract logic, eleventh part: short rules for calls. -/
import Derived.Test.YtjeabpbpoomlmaaTy
set_option linter.unusedSimpArgs false
set_option linter.unusedVariables false
namespace Go.Pc
open Go

section
variable {P : Program} {T : TypeId → Ty} {fx bl : List Nat}

theorem filtL_true' (l : List AV) : l.map (AV.filt fun r => !(movedBy [] []).contains r) = l := by
  have : (fun r : Nat => !(movedBy [] []).contains r) = fun _ => true := by funext r; simp [movedBy]
  rw [this]
  induction l with
  | nil => rfl
  | cons x l ih => rw [List.map_cons, ih, AV.filt_true]

theorem OB.filt_true' (o : OB) : o.filt (fun r => !(movedBy [] []).contains r) = o := by
  cases o with
  | cells cs => simp only [OB.filt, filtL_true']
  | _ => rfl

theorem AS.back_nil (s : AS) : s.back [] [] [] = s := by
  have : s.L.map (OB.filt fun r => !(movedBy [] []).contains r) = s.L := by
    conv => rhs; rw [← List.map_id s.L]
    exact List.map_congr_left fun o _ => OB.filt_true' o
  simp only [AS.back, filtL_true', this]
  simp [setAll]

theorem freeL_ren' (σ : Nat → Nat) (l : List AV) (h : freeL l = true) : l.map (AV.ren σ) = l := by
  induction l with
  | nil => rfl
  | cons x l ih =>
    simp only [freeL, Bool.and_eq_true] at h
    rw [List.map_cons, ih h.2, AV.free_ren σ x h.1]

/-- A call of a function that is handed no own block and hands none back. -/
theorem acall_rel {f : FuncId} {args : List AV} {R : AV → Prop} (h : ACalls P f args [] [] (fun r L => (R r ∧ r.free = true) ∧ L = [])) (hfree : freeL args = true) {s : AS} {K : AV → AS → Prop} (hK : ∀ r, R r → K r s) :
    ACall P fx (.fn f []) args s K :=
  acall h s [] List.nodup_nil rfl (fun j r o h => by simp at h) (fun j r h => by simp at h) (by rw [freeL_ren' _ _ hfree, List.append_nil]) fun res L' ⟨⟨h1, h3⟩, h2⟩ _ => by
    subst h2
    rw [AV.free_ren _ _ h3, AS.back_nil]
    exact hK res h1

theorem acall_one {f : FuncId} {args : List AV} {x : AV} (h : ACalls P f args [] [] (fun r L => r = x ∧ L = [])) (hfree : freeL args = true) (hx : x.free = true) {s : AS} {K : AV → AS → Prop} (hK : K x s) :
    ACall P fx (.fn f []) args s K :=
  acall_rel (R := fun r => r = x) (h.mono fun _ _ ⟨h1, h2⟩ => ⟨⟨h1, h1 ▸ hx⟩, h2⟩) hfree fun _ hr => hr ▸ hK

theorem qcall_one {f : FuncId} {args : List AV} {r : AV} (h : ACalls P f args [] [] (fun res L' => res = r ∧ L' = [])) (hfree : freeL args = true) : QCall P (.fn f []) args r :=
  qcall_of (caps := []) (by rwa [List.append_nil]) (by rwa [List.append_nil])

/-! ### The operations in tail form: what goes on stands last and is not looked into before its turn -/

def Opt {α : Type} (o : Option α) (K : α → Prop) : Prop := ∃ r, o = some r ∧ K r
theorem Opt_some {α : Type} (a : α) (K : α → Prop) : Opt (some a) K = K a := by simp [Opt]
def OptC (o : Option OB) (K : List AV → Prop) : Prop := ∃ cs, o = some (.cells cs) ∧ K cs
theorem OptC_cells (cs : List AV) (K : List AV → Prop) : OptC (some (.cells cs)) K = K cs := by simp [OptC]
def OptV (o : Option OB) (k : Nat) (K : List (List AV) → Prop) : Prop := ∃ es, o = some (.vec k es) ∧ K es
theorem OptV_vec (k : Nat) (es : List (List AV)) (K : List (List AV) → Prop) : OptV (some (.vec k es)) k K = K es := by simp [OptV]
def Req {α : Type} (A : Prop) (K : α → Prop) (r : α) : Prop := A ∧ K r
theorem Req_true {α : Type} (K : α → Prop) (r : α) : Req True K r = K r := by simp [Req]
theorem req {α : Type} {A : Prop} {K : α → Prop} {r : α} (h : A) (hk : K r) : Req A K r := ⟨h, hk⟩

def CAt (K : List AV → Nat → Prop) (off : Nat) (cs : List AV) : Prop := K cs off
def VAt (K : List AV → Nat → Prop) (i off : Nat) (es : List (List AV)) : Prop := Opt es[i]? (CAt K off)
theorem cellsAt_ip (s : AS) (cs : List AV) (K : List AV → Nat → Prop) : cellsAt s (.ip cs) K = K cs 0 := nrf rfl
theorem cellsAt_ptr (s : AS) (r off : Nat) (K : List AV → Nat → Prop) : cellsAt s (.ptr r off) K = OptC s.L[r]? (CAt K off) := nrf rfl
theorem cellsAt_vp (s : AS) (r k i off : Nat) (K : List AV → Nat → Prop) : cellsAt s (.vp r k i off) K = OptV s.L[r]? k (VAt K i off) := nrf rfl

def LoadGo (T : TypeId → Ty) (t : TypeId) (K : AV → Prop) (cs : List AV) (off : Nat) : Prop := Opt (rdC (T t) cs off) K
theorem qLoad_sx (t : TypeId) (s : AS) (x : AV) (K : AV → Prop) : qLoad T t s x K = Req ((T t).kd.ok = true) (cellsAt s x) (LoadGo T t K) := nrf rfl

theorem move_ip (cs : List AV) (n : Nat) (K : AV → Prop) : AV.move (.ip cs) n K = Req (n ≤ cs.length) K (.ip (cs.drop n)) := nrf rfl
theorem move_ptr (r off n : Nat) (K : AV → Prop) : AV.move (.ptr r off) n K = K (.ptr r (off + n)) := nrf rfl
theorem move_vp (r k i off n : Nat) (K : AV → Prop) : AV.move (.vp r k i off) n K = K (.vp r k i (off + n)) := nrf rfl

def FieldGo (T : TypeId → Ty) (x : AV) (K : AV → Prop) (p : Nat × TypeId) : Prop := (T p.2).kd.ok = true ∧ (T p.2).size ≠ 0 ∧ x.move p.1 K
theorem FieldGo_sx (x : AV) (K : AV → Prop) (p : Nat × TypeId) : FieldGo T x K p = Req ((T p.2).kd.ok = true ∧ (T p.2).size ≠ 0) (AV.move x p.1) K := by simp [FieldGo, Req, and_assoc]
theorem qField_sx (t : TypeId) (x : AV) (f : Nat) (K : AV → Prop) : qField T t x f K = (match (T t).kd with | .struct fs => Opt fs[f]? (FieldGo T x K) | _ => False) := nrf rfl

def IxC (T : TypeId → Ty) (e : TypeId) (K : AV → Prop) (c : List AV) : Prop := Req (c.length = (T e).size) K (.ip c)
def IxSl (T : TypeId → Ty) (e : TypeId) (x : AV) (K : AV → Prop) (n : Int) : Prop :=
  match x with
  | .sl es => ∃ c, es[n.toNat]? = some c ∧ c.length = (T e).size ∧ K (.ip c)
  | .os r k off len => k = (T e).size ∧ n < len ∧ K (.vp r k (off + n.toNat) 0)
  | _ => False
theorem IxSl_sl (e : TypeId) (es : List (List AV)) (K : AV → Prop) (n : Int) : IxSl T e (.sl es) K n = Opt es[n.toNat]? (IxC T e K) := nrf rfl
theorem IxSl_os (e : TypeId) (r k off len : Nat) (K : AV → Prop) (n : Int) : IxSl T e (.os r k off len) K n = Req (k = (T e).size ∧ n < len) K (.vp r k (off + n.toNat) 0) := by simp [IxSl, Req, and_assoc]
def IxGo (T : TypeId → Ty) (t : TypeId) (x : AV) (K : AV → Prop) (n : Int) : Prop :=
  match (T t).kd with
  | .slice e => Req ((T e).kd.ok = true) (IxSl T e x K) n
  | .array len e => Req ((T e).kd.ok = true ∧ n < len) (AV.move x (n.toNat * (T e).size)) K
  | _ => False
theorem qIndexAddr_sx (t : TypeId) (x : AV) (k : IntKind) (n : Int) (K : AV → Prop) : qIndexAddr T t x (.val (.int k n)) K = Req (0 ≤ n) (IxGo T t x K) n := by
  simp only [qIndexAddr, IxGo, Req]
  cases (T t).kd <;> simp only [and_assoc] <;> rfl

def PartR (T : TypeId → Ty) (cs : List AV) (p : Nat × TypeId) (K : AV → Prop) : Prop := Opt (rdC (T p.2) cs p.1) K
def PartGo (T : TypeId → Ty) (cs : List AV) (K : AV → Prop) (p : Nat × TypeId) : Prop := Req ((T p.2).kd.ok = true) (PartR T cs p) K
theorem qPart_sx (t : TypeId) (cs : List AV) (f : Nat) (K : AV → Prop) : qPart T t (.agg cs) f K = (match (T t).kd with | .struct fs => Opt fs[f]? (PartGo T cs K) | _ => False) := by
  simp only [qPart]
  cases (T t).kd <;> rfl

def IndR (T : TypeId → Ty) (e : TypeId) (cs : List AV) (n : Int) (K : AV → Prop) : Prop := Opt (rdC (T e) cs (n.toNat * (T e).size)) K
def IndA (T : TypeId → Ty) (t : TypeId) (cs : List AV) (K : AV → Prop) (n : Int) : Prop :=
  match (T t).kd with
  | .array len e => Req ((T e).kd.ok = true ∧ n < len) (IndR T e cs n) K
  | _ => False
theorem qIndex_agg (t : TypeId) (cs : List AV) (k : IntKind) (n : Int) (K : AV → Prop) : qIndex T t (.agg cs) (.val (.int k n)) K = Req (0 ≤ n) (IndA T t cs K) n := by
  simp only [qIndex, IndA, Req, IndR, Opt]
  cases (T t).kd <;> simp only [and_assoc]
def IndS (K : AV → Prop) (b : UInt8) : Prop := K (.val (.int .u8 b.toNat))
def IndT (T : TypeId → Ty) (t : TypeId) (s : ByteArray) (K : AV → Prop) (n : Int) : Prop :=
  match (T t).kd with
  | .str => Opt s[n.toNat]? (IndS K)
  | _ => False
theorem qIndex_str (t : TypeId) (s : ByteArray) (k : IntKind) (n : Int) (K : AV → Prop) : qIndex T t (.val (.string s)) (.val (.int k n)) K = Req (0 ≤ n) (IndT T t s K) n := by
  simp only [qIndex, IndT, Req]
  cases (T t).kd <;> rfl

theorem qExtract_tup (l : List AV) (i : Nat) (K : AV → Prop) : qExtract (.tup l) i K = Opt l[i]? K := nrf rfl

def BuK (K : AV → Prop) (r : List AV) : Prop := K (.agg r)
def BuS (T : TypeId → Ty) (t : TypeId) (ps : List (Nat × AV)) (fs : List (Nat × TypeId)) (K : AV → Prop) : Prop := Opt (fillA (fun i => (fs[i]?).map fun p => (p.1, (T p.2).size)) ((T t).zero.map AV.val) ps) (BuK K)
def BuA (T : TypeId → Ty) (t : TypeId) (ps : List (Nat × AV)) (e : TypeId) (K : AV → Prop) : Prop := Opt (fillA (fun i => some (i * (T e).size, (T e).size)) ((T t).zero.map AV.val) ps) (BuK K)
theorem qBuild_sx (t : TypeId) (ps : List (Nat × AV)) (K : AV → Prop) : qBuild T t ps K = (match (T t).kd with
    | .struct fs => Req (fs.all (fun p => (T p.2).kd.ok) = true) (BuS T t ps fs) K
    | .array _ e => Req ((T e).kd.ok = true) (BuA T t ps e) K
    | _ => False) := nrf rfl

def ConvI (T : TypeId → Ty) (dst : TypeId) (n : Int) (K : AV → Prop) : Prop :=
  match (T dst).kd with
  | .intk k => K (.val (.int k (k.wrap n)))
  | _ => False
theorem qConv_int (src dst : TypeId) (k : IntKind) (n : Int) (K : AV → Prop) : qConv T src dst (.val (.int k n)) K = Req ((T src).kd.ok = true) (ConvI T dst n) K := by
  simp only [qConv, ConvI, Req]
  cases (T dst).kd <;> rfl

def SlH (T : TypeId → Ty) (e : TypeId) (es : List (List AV)) (K : AV → Prop) (l h : Nat) : Prop := Req (l ≤ h ∧ h ≤ es.length ∧ ∀ c, es[0]? = some c → c.length = (T e).size) K (.sl ((es.take h).drop l))
def SlL (T : TypeId → Ty) (e : TypeId) (es : List (List AV)) (hi : Option AV) (K : AV → Prop) (l : Nat) : Prop := Opt (bnd es.length hi) (SlH T e es K l)
def SlGo (T : TypeId → Ty) (e : TypeId) (es : List (List AV)) (lo hi : Option AV) (K : AV → Prop) : Prop := Opt (bnd 0 lo) (SlL T e es hi K)
theorem qSlice_sl (t : TypeId) (es : List (List AV)) (lo hi : Option AV) (K : AV → Prop) : qSlice T t (.sl es) lo hi none K = (match (T t).kd with
    | .slice e => Req ((T e).kd.ok = true) (SlGo T e es lo hi) K
    | _ => False) := by
  simp only [qSlice, Req, SlGo, SlL, SlH, Opt, true_and]
  cases (T t).kd <;> simp only [and_assoc]
def SoH (k r off n : Nat) (K : AV → Prop) (l h : Nat) : Prop := Req (l ≤ h ∧ h ≤ n) K (.os r k (off + l) (h - l))
def SoL (k r off n : Nat) (hi : Option AV) (K : AV → Prop) (l : Nat) : Prop := Opt (bnd n hi) (SoH k r off n K l)
def SoGo (k r off n : Nat) (lo hi : Option AV) (K : AV → Prop) : Prop := Opt (bnd 0 lo) (SoL k r off n hi K)
theorem qSlice_os (t : TypeId) (k r off n : Nat) (lo hi : Option AV) (K : AV → Prop) : qSlice T t (.os r k off n) lo hi none K = (match (T t).kd with
    | .slice e => Req ((T e).kd.ok = true ∧ k = (T e).size) (SoGo k r off n lo hi) K
    | _ => False) := by
  simp only [qSlice, Req, SoGo, SoL, SoH, Opt, true_and]
  cases (T t).kd <;> simp only [and_assoc]

def EqK (K : AV → Prop) (b : Bool) : Prop := K (.val (.bool b))
def NeK (K : AV → Prop) (b : Bool) : Prop := K (.val (.bool (!b)))
def AggE (T : TypeId → Ty) (t : TypeId) (xs ys : List AV) (K : AV → Prop) : Prop := Opt (eqA (T t).eqk xs ys) (EqK K)
def AggN (T : TypeId → Ty) (t : TypeId) (xs ys : List AV) (K : AV → Prop) : Prop := Opt (eqA (T t).eqk xs ys) (NeK K)
theorem qBin_aggE (t : TypeId) (xs ys : List AV) (K : AV → Prop) : qBin T .eql t (.agg xs) (.agg ys) K = Req ((T t).eqk ≠ []) (AggE T t xs ys) K := nrf rfl
theorem qBin_aggN (t : TypeId) (xs ys : List AV) (K : AV → Prop) : qBin T .neq t (.agg xs) (.agg ys) K = Req ((T t).eqk ≠ []) (AggN T t xs ys) K := nrf rfl
theorem qBin_nilE (t : TypeId) (es : List (List AV)) (K : AV → Prop) : qBin T .eql t (.sl es) (.val (.slice none 0 0)) K = Req (es ≠ [] ∧ (T t).kd.isSl = true) K (.val (.bool false)) := nrf rfl
theorem qBin_nilN (t : TypeId) (es : List (List AV)) (K : AV → Prop) : qBin T .neq t (.sl es) (.val (.slice none 0 0)) K = Req (es ≠ [] ∧ (T t).kd.isSl = true) K (.val (.bool true)) := nrf rfl
theorem qBin_boolE (t : TypeId) (a b : Bool) (K : AV → Prop) : qBin T .eql t (.val (.bool a)) (.val (.bool b)) K = Req ((T t).kd = .bool) K (.val (.bool (decide (a = b)))) := nrf rfl
theorem qBin_boolN (t : TypeId) (a b : Bool) (K : AV → Prop) : qBin T .neq t (.val (.bool a)) (.val (.bool b)) K = Req ((T t).kd = .bool) K (.val (.bool (!decide (a = b)))) := nrf rfl
theorem qBin_strE (t : TypeId) (a b : ByteArray) (K : AV → Prop) : qBin T .eql t (.val (.string a)) (.val (.string b)) K = K (.val (.bool (decide (a = b)))) := nrf rfl
theorem qBin_strN (t : TypeId) (a b : ByteArray) (K : AV → Prop) : qBin T .neq t (.val (.string a)) (.val (.string b)) K = K (.val (.bool (!decide (a = b)))) := nrf rfl
theorem qBin_strA (t : TypeId) (a b : ByteArray) (K : AV → Prop) : qBin T .add t (.val (.string a)) (.val (.string b)) K = Req (a.size + b.size ≤ 9223372036854775807) K (.val (.string (a ++ b))) := nrf rfl
theorem qBin_add (t : TypeId) (k : IntKind) (a b : Int) (K : AV → Prop) : qBin T .add t (.val (.int k a)) (.val (.int k b)) K = K (.val (.int k (k.wrap (a + b)))) := by simp [qBin]
theorem qBin_sub (t : TypeId) (k : IntKind) (a b : Int) (K : AV → Prop) : qBin T .sub t (.val (.int k a)) (.val (.int k b)) K = K (.val (.int k (k.wrap (a - b)))) := by simp [qBin]
theorem qBin_mul (t : TypeId) (k : IntKind) (a b : Int) (K : AV → Prop) : qBin T .mul t (.val (.int k a)) (.val (.int k b)) K = K (.val (.int k (k.wrap (a * b)))) := by simp [qBin]
theorem qBin_quo (t : TypeId) (k : IntKind) (a b : Int) (K : AV → Prop) : qBin T .quo t (.val (.int k a)) (.val (.int k b)) K = Req (b ≠ 0) K (.val (.int k (k.wrap (a.tdiv b)))) := by simp [qBin, Req]
theorem qBin_rem (t : TypeId) (k : IntKind) (a b : Int) (K : AV → Prop) : qBin T .rem t (.val (.int k a)) (.val (.int k b)) K = Req (b ≠ 0) K (.val (.int k (a.tmod b))) := by simp [qBin, Req]
theorem qBin_eql (t : TypeId) (k : IntKind) (a b : Int) (K : AV → Prop) : qBin T .eql t (.val (.int k a)) (.val (.int k b)) K = K (.val (.bool (decide (a = b)))) := by simp [qBin]
theorem qBin_neq (t : TypeId) (k : IntKind) (a b : Int) (K : AV → Prop) : qBin T .neq t (.val (.int k a)) (.val (.int k b)) K = K (.val (.bool (!decide (a = b)))) := by simp [qBin]
theorem qBin_lss (t : TypeId) (k : IntKind) (a b : Int) (K : AV → Prop) : qBin T .lss t (.val (.int k a)) (.val (.int k b)) K = K (.val (.bool (decide (a < b)))) := by simp [qBin]
theorem qBin_leq (t : TypeId) (k : IntKind) (a b : Int) (K : AV → Prop) : qBin T .leq t (.val (.int k a)) (.val (.int k b)) K = K (.val (.bool (decide (a ≤ b)))) := by simp [qBin]
theorem qBin_gtr (t : TypeId) (k : IntKind) (a b : Int) (K : AV → Prop) : qBin T .gtr t (.val (.int k a)) (.val (.int k b)) K = K (.val (.bool (decide (b < a)))) := by simp [qBin]
theorem qBin_geq (t : TypeId) (k : IntKind) (a b : Int) (K : AV → Prop) : qBin T .geq t (.val (.int k a)) (.val (.int k b)) K = K (.val (.bool (decide (b ≤ a)))) := by simp [qBin]
theorem qBin_xor (t : TypeId) (k : IntKind) (a b : Int) (K : AV → Prop) : qBin T .xor t (.val (.int k a)) (.val (.int k b)) K = K (.val (.int k (k.wrap (BitVec.ofInt k.bits a ^^^ BitVec.ofInt k.bits b).toNat))) := by simp [qBin]

theorem sAlloc_sx (e : TypeId) (s : AS) (K : AV → AS → Prop) : sAlloc T e s K = Req ((T e).kd.ok = true) (K (.ptr s.L.length 0)) (s.push (.cells ((T e).zero.map AV.val))) := nrf rfl
def BoxGo (s : AS) (K : AV → AS → Prop) (cs : List AV) : Prop := K (.ptr s.L.length 0) (s.push (.cells cs))
theorem sBox_sx (x : AV) (s : AS) (K : AV → AS → Prop) : sBox x s K = Opt (cellsOf x) (BoxGo s K) := nrf rfl

def StQ (s : AS) (K : AS → Prop) (r off : Nat) (xs cs : List AV) : Prop := Req (off + xs.length ≤ cs.length) K { s with L := s.L.set r (.cells (putAt cs off xs)) }
def StP (s : AS) (K : AS → Prop) (r off : Nat) (xs : List AV) : Prop := OptC s.L[r]? (StQ s K r off xs)
def StX (s : AS) (K : AS → Prop) (r k i off : Nat) (xs : List AV) (es : List (List AV)) (e : List AV) : Prop := Req (off + xs.length ≤ e.length) K { s with L := s.L.set r (.vec k (es.set i (putAt e off xs))) }
def StW (s : AS) (K : AS → Prop) (r k i off : Nat) (xs : List AV) (es : List (List AV)) : Prop := Opt es[i]? (StX s K r k i off xs es)
def StV (s : AS) (K : AS → Prop) (r k i off : Nat) (xs : List AV) : Prop := OptV s.L[r]? k (StW s K r k i off xs)
def StS (T : TypeId → Ty) (t : TypeId) (x : AV) (s : AS) (K : AS → Prop) (xs : List AV) : Prop := xs.length = (T t).size ∧ xs.all AV.one = true ∧
  match x with
  | .ptr r off => StP s K r off xs
  | .vp r k i off => xs.all AV.pure = true ∧ StV s K r k i off xs
  | _ => False
def StGo (T : TypeId → Ty) (t : TypeId) (x y : AV) (s : AS) (K : AS → Prop) : Prop := Opt (cellsOf y) (StS T t x s K)
theorem StS_ptr (t : TypeId) (r off : Nat) (s : AS) (K : AS → Prop) (xs : List AV) : StS T t (.ptr r off) s K xs = Req (xs.length = (T t).size ∧ xs.all AV.one = true) (StP s K r off) xs := by simp [StS, Req, and_assoc]
theorem StS_vp (t : TypeId) (r k i off : Nat) (s : AS) (K : AS → Prop) (xs : List AV) : StS T t (.vp r k i off) s K xs = Req (xs.length = (T t).size ∧ xs.all AV.one = true ∧ xs.all AV.pure = true) (StV s K r k i off) xs := by simp [StS, Req, and_assoc]
theorem sStore_sx (t : TypeId) (x y : AV) (s : AS) (K : AS → Prop) : sStore T t x y s K = Req ((T t).kd.ok = true) (StGo T t x y s) K := by
  simp only [sStore, Req, StGo, Opt, StS]
  cases x <;> rfl

theorem sMake_sx (t : TypeId) (k k2 : IntKind) (n : Int) (s : AS) (K : AV → AS → Prop) : sMake T t (.val (.int k n)) (.val (.int k2 n)) s K = (match (T t).kd with
    | .slice e => Req ((T e).kd.ok = true ∧ 0 < (T e).size ∧ 0 ≤ n ∧ (T e).bytes * n.toNat ≤ 281474976710656 ∧ n.toNat ≤ 9223372036854775807) (K (.os s.L.length (T e).size 0 n.toNat)) (s.push (.vec (T e).size (List.replicate n.toNat ((T e).zero.map AV.val))))
    | _ => False) := by
  simp only [sMake, Req]
  cases (T t).kd <;> simp only [and_assoc, true_and]

def LitY (T : TypeId → Ty) (bo : Bool) (e : TypeId) (n : Nat) (s : AS) (K : AV → AS → Prop) (es : List (List AV)) : Prop := if bo || n == 0 then K (.os s.L.length (T e).size 0 n) (s.push (.vec (T e).size es)) else K (.sl es) s
def LitX (T : TypeId → Ty) (bo : Bool) (e : TypeId) (n : Nat) (s : AS) (K : AV → AS → Prop) (xs : List AV) : Prop := Opt (litRow (T e).size xs) (LitY T bo e n s K)
def LitGo (T : TypeId → Ty) (bo : Bool) (e : TypeId) (n : Nat) (ps : List (Nat × AV)) (s : AS) (K : AV → AS → Prop) : Prop := Opt (inOrd 0 ps) (LitX T bo e n s K)
theorem sLit_sx (bo : Bool) (t : TypeId) (n : Nat) (ps : List (Nat × AV)) (s : AS) (K : AV → AS → Prop) : sLit T bo t n ps s K = (match (T t).kd with
    | .slice e => Req ((T e).kd.ok = true ∧ 0 < (T e).size ∧ n * (T e).size ≤ 16777216 ∧ ps.length = n) (LitGo T bo e n ps s) K
    | _ => False) := by
  simp only [sLit, Req, LitGo, LitX, LitY, Opt]
  cases (T t).kd <;> simp only [and_assoc]

def ApW (T : TypeId → Ty) (e : TypeId) (r k off n : Nat) (news : List (List AV)) (s : AS) (K : AV → AS → Prop) (es : List (List AV)) : Prop :=
  Req (off + n = es.length ∧ (n + news.length) * (T e).bytes ≤ 140737488355328 ∧ n + news.length ≤ 9223372036854775807) (K (.os r k 0 (n + news.length))) { s.kill r with L := (s.kill r).L.set r (.vec k (es.drop off ++ news)) }
def ApV (T : TypeId → Ty) (e : TypeId) (r k off n : Nat) (news : List (List AV)) (s : AS) (K : AV → AS → Prop) : Prop := OptV s.L[r]? k (ApW T e r k off n news s K)
def ApN (T : TypeId → Ty) (fx : List Nat) (e : TypeId) (r k off n : Nat) (s : AS) (K : AV → AS → Prop) (news : List (List AV)) : Prop :=
  Req ((∀ c ∈ news, c.length = (T e).size ∧ c.all AV.one = true ∧ c.all AV.pure = true) ∧ r ∉ fx ∧ k = (T e).size) (ApV T e r k off n news s) K
def ApGo (T : TypeId → Ty) (fx : List Nat) (e : TypeId) (r k off n : Nat) (y : AV) (s : AS) (K : AV → AS → Prop) : Prop := Opt (elemsOf s y) (ApN T fx e r k off n s K)
theorem sAppend_os (t : TypeId) (r k off n : Nat) (y : AV) (s : AS) (K : AV → AS → Prop) : sAppend T fx t (.os r k off n) y s K = (match (T t).kd with
    | .slice e => Req ((T e).kd.ok = true ∧ 0 < (T e).size) (ApGo T fx e r k off n y s) K
    | _ => False) := by
  simp only [sAppend, Req, ApGo, ApN, ApV, ApW, Opt, OptV]
  cases (T t).kd <;> simp only [and_assoc]
def AnN (T : TypeId → Ty) (e : TypeId) (s : AS) (K : AV → AS → Prop) (news : List (List AV)) : Prop :=
  Req ((∀ c ∈ news, c.length = (T e).size ∧ c.all AV.one = true ∧ c.all AV.pure = true) ∧ news.length * (T e).bytes ≤ 140737488355328 ∧ news.length ≤ 9223372036854775807) (K (.os s.L.length (T e).size 0 news.length)) (s.push (.vec (T e).size news))
def AnGo (T : TypeId → Ty) (e : TypeId) (y : AV) (s : AS) (K : AV → AS → Prop) : Prop := Opt (elemsOf s y) (AnN T e s K)
theorem sAppend_nil (t : TypeId) (y : AV) (s : AS) (K : AV → AS → Prop) : sAppend T fx t (.val (.slice none 0 0)) y s K = (match (T t).kd with
    | .slice e => Req ((T e).kd.ok = true ∧ 0 < (T e).size) (AnGo T e y s) K
    | _ => False) := by
  simp only [sAppend, Req, AnGo, AnN, Opt]
  cases (T t).kd <;> simp only [and_assoc]

/-! ### Rows of eight -/

/-- Eight cells and the rest: long rows are read and written in fewer steps. -/
def W8 (a b c d e f g h : AV) (r : List AV) : List AV := a :: b :: c :: d :: e :: f :: g :: h :: r

variable (a b c d e f g h x y : AV) (r : List AV) (n : Nat)
theorem w8s0 : (W8 a b c d e f g h r).set 0 x = W8 x b c d e f g h r := nrf rfl
theorem w8d0 : (W8 a b c d e f g h r).getD 0 y = a := nrf rfl
theorem w8g0 : (W8 a b c d e f g h r)[0]? = some a := nrf rfl
theorem w8s1 : (W8 a b c d e f g h r).set 1 x = W8 a x c d e f g h r := nrf rfl
theorem w8d1 : (W8 a b c d e f g h r).getD 1 y = b := nrf rfl
theorem w8g1 : (W8 a b c d e f g h r)[1]? = some b := nrf rfl
theorem w8s2 : (W8 a b c d e f g h r).set 2 x = W8 a b x d e f g h r := nrf rfl
theorem w8d2 : (W8 a b c d e f g h r).getD 2 y = c := nrf rfl
theorem w8g2 : (W8 a b c d e f g h r)[2]? = some c := nrf rfl
theorem w8s3 : (W8 a b c d e f g h r).set 3 x = W8 a b c x e f g h r := nrf rfl
theorem w8d3 : (W8 a b c d e f g h r).getD 3 y = d := nrf rfl
theorem w8g3 : (W8 a b c d e f g h r)[3]? = some d := nrf rfl
theorem w8s4 : (W8 a b c d e f g h r).set 4 x = W8 a b c d x f g h r := nrf rfl
theorem w8d4 : (W8 a b c d e f g h r).getD 4 y = e := nrf rfl
theorem w8g4 : (W8 a b c d e f g h r)[4]? = some e := nrf rfl
theorem w8s5 : (W8 a b c d e f g h r).set 5 x = W8 a b c d e x g h r := nrf rfl
theorem w8d5 : (W8 a b c d e f g h r).getD 5 y = f := nrf rfl
theorem w8g5 : (W8 a b c d e f g h r)[5]? = some f := nrf rfl
theorem w8s6 : (W8 a b c d e f g h r).set 6 x = W8 a b c d e f x h r := nrf rfl
theorem w8d6 : (W8 a b c d e f g h r).getD 6 y = g := nrf rfl
theorem w8g6 : (W8 a b c d e f g h r)[6]? = some g := nrf rfl
theorem w8s7 : (W8 a b c d e f g h r).set 7 x = W8 a b c d e f g x r := nrf rfl
theorem w8d7 : (W8 a b c d e f g h r).getD 7 y = h := nrf rfl
theorem w8g7 : (W8 a b c d e f g h r)[7]? = some h := nrf rfl
theorem w8sn : (W8 a b c d e f g h r).set (n + 8) x = W8 a b c d e f g h (r.set n x) := nrf rfl
theorem w8dn : (W8 a b c d e f g h r).getD (n + 8) y = r.getD n y := nrf rfl
theorem w8gn : (W8 a b c d e f g h r)[n + 8]? = r[n]? := nrf rfl
theorem w8m (k : AV → AV) : (W8 a b c d e f g h r).map k = W8 (k a) (k b) (k c) (k d) (k e) (k f) (k g) (k h) (r.map k) := nrf rfl

omit a b c d e f g h x y r n
theorem acalls_tm (hT : TTOk P T) {fn' : FuncId} {fn : Func} {co : Code} {args : List AV} {L0 : List OB} {R : AV → List OB → Prop} (hf : P.funcs[fn']? = some fn) (hb : fn.body = some co) (he : Enters P fn') (m : Nat) (hn : fn.ntmps - args.length = m) (tm0 : List AV) (h0 : args ++ List.replicate m .any = tm0) {rv : List ResultVar} (hrv : fn.results = rv.toArray)
    (hh : awp P fx co (Ret T fx rv L0.length R) ⟨tm0, L0⟩) : ACalls P fn' args L0 fx R :=
  acalls_intro hT hf hb he m hn hrv (by rw [h0]; exact hh)

/-! ### Loops over a part of the temporaries -/

/-- Some temporaries in a row are junk. -/
def anyAt : Nat → Nat → List AV → List AV
  | _, 0, l => l
  | lo, n + 1, l => anyAt (lo + 1) n (l.set lo .any)

def setVs (tm : List AV) : List (Nat × AV) → List AV
  | [] => tm
  | (i, x) :: l => setVs (tm.set i x) l

/-- A loop's state: some temporaries in a row are junk, some hold what the ghost tells. -/
def AS.hav (s : AS) (lo n : Nat) (vals : List (Nat × AV)) (L : List OB) : AS := ⟨setVs (anyAt lo n s.tm) vals, L⟩

theorem awp_loop_h {c : Code} {Q : Exit → AS → Prop} {s : AS} {G : Type} (lo n : Nat) (vals : G → List (Nat × AV)) (Ls : G → List OB) (I : G → Prop) (μ : G → Nat) (g0 : G) (hI : I g0)
    (h0 : Wk fx s (s.hav lo n (vals g0) (Ls g0))) (round : ∀ g, I g → awp P fx c (Lp fx I (fun g => s.hav lo n (vals g) (Ls g)) μ (μ g) Q) (s.hav lo n (vals g) (Ls g))) :
    awp P fx (.loop c) Q s := awp_loop I _ μ g0 hI h0 round

theorem leAV_any (m : Nat) (x : AV) : leAV m x .any = True := by simp [leAV]
theorem leAV_refl (m : Nat) (x : AV) (h : x.under m = true) : leAV m x x = True := by simp [leAV, h]
theorem leAV_val (m : Nat) (u v : Value) : leAV m (.val u) (.val v) = (v = u) := by
  simp only [leAV, AV.under, reduceCtorEq, false_or, and_false, or_false, and_true, AV.val.injEq]
  exact propext ⟨fun h => h.symm, fun h => h.symm⟩

theorem wrap64 (x : Int) (h1 : -9223372036854775808 ≤ x) (h2 : x ≤ 9223372036854775807) : IntKind.i64.wrap x = x := by
  simp [IntKind.wrap, IntKind.signed, IntKind.bits]
  omega

theorem getMap {α β : Type} (f : α → β) (l : List α) (i : Nat) (x : α) (h : l[i]? = some x) : (l.map f)[i]? = some (f x) := by rw [List.getElem?_map, h]; rfl

theorem take_next {α : Type} {q : α → Prop} {l : List α} {i : Nat} {x : α} (h : l[i]? = some x) (h1 : ∀ p ∈ l.take i, q p) (h2 : q x) : ∀ p ∈ l.take (i + 1), q p := by
  intro p hp
  rw [List.take_add_one, h] at hp
  rcases List.mem_append.1 hp with hp | hp
  · exact h1 p hp
  · simp at hp; subst hp; exact h2
theorem take_not {α : Type} {q : α → Prop} {l : List α} {i : Nat} {x : α} (h : l[i]? = some x) (h2 : ¬ q x) : ¬ ∀ p ∈ l, q p := fun hh => h2 (hh x (List.mem_of_getElem? h))
theorem take_all {α : Type} {q : α → Prop} {l : List α} {i : Nat} (h : l.length ≤ i) (h1 : ∀ p ∈ l.take i, q p) : ∀ p ∈ l, q p := by rwa [List.take_of_length_le h] at h1
theorem get_lt {α : Type} {l : List α} {i : Nat} (h : i < l.length) : ∃ x, l[i]? = some x := ⟨l[i], List.getElem?_eq_getElem h⟩

theorem vb {p q : Prop} [Decidable p] [Decidable q] (h : p ↔ q) : AV.val (.bool (decide p)) = AV.val (.bool (decide q)) := by rw [decide_eq_decide.2 h]

theorem fin_val {R : AV → List OB → Prop} {s : AS} {v : Value} (hR : R (.val v) []) : Fin [] 0 R s (.val v) := fin_free rfl hR

theorem br_ndec {p : Prop} [Decidable p] {X Y : AS → Prop} {f : Bool → AS} (h1 : ¬ p → X (f true)) (h2 : p → Y (f false)) : Br (!decide p) X Y f := ⟨fun h => h1 (by simpa using h), fun h => h2 (by simpa using h)⟩
theorem pk_ndec {p : Prop} [Decidable p] {x y : AV} {K : AV → Prop} (h1 : ¬ p → K x) (h2 : p → K y) : Pk (!decide p) x y K := ⟨fun h => h1 (by simpa using h), fun h => h2 (by simpa using h)⟩

/-! ### Regions that draw their order: one operation after the other -/

/-- The result goes into its temporary, then on. -/
def QN (P : Program) (T : TypeId → Ty) (all : List Oper) (n : Nat) (rest : List Oper) (dst : Option Tmp) (s : AS) (K : AS → Prop) (r : AV) : Prop := sxQs P T all n rest (s.put dst r) K
def QGo (P : Program) (T : TypeId → Ty) (all : List Oper) (n : Nat) (rest : List Oper) (dst : Option Tmp) (op : Op) (K : AS → Prop) (s : AS) : Prop := qOp P T op s (QN P T all n rest dst s K)
def QSkip (P : Program) (T : TypeId → Ty) (all : List Oper) (n : Nat) (rest : List Oper) (dst : Option Tmp) (K : AS → Prop) (s : AS) : Prop := sxQs P T all n rest (s.put dst (.val undef)) K

theorem sxQs_zero (all l : List Oper) (s : AS) (K : AS → Prop) : sxQs P T all 0 l s K = K s := by cases l <;> rfl
theorem sxQs_nil (all : List Oper) (n : Nat) (s : AS) (K : AS → Prop) : sxQs P T all n [] s K = K s := by cases n <;> rfl
theorem sxQs_cons (all : List Oper) (n : Nat) (dst : Option Tmp) (op : Op) (ty : TypeId) (pos : String) (after : Array Edge) (rest : List Oper) (s : AS) (K : AS → Prop) :
    sxQs P T all (n + 1) ({ dst := dst, op := op, type := ty, pos := pos, after := after, guard := none } :: rest) s K = qOp P T op s (QN P T all n rest dst s K) := nrf rfl

def QG (P : Program) (T : TypeId → Ty) (all : List Oper) (n : Nat) (dst : Option Tmp) (op : Op) (g : Nat) (want : Bool) (rest : List Oper) (s : AS) (K : AS → Prop) : Prop :=
  match dstAt all g with
  | none => QSkip P T all n rest dst K s
  | some d =>
    match gv s.tm[d]? with
    | .tells b =>
      match want with
      | true => Br b (QGo P T all n rest dst op K) (QSkip P T all n rest dst K) (s.tell d)
      | false => Br b (QSkip P T all n rest dst K) (QGo P T all n rest dst op K) (s.tell d)
    | .no => QSkip P T all n rest dst K s
    | .bad => False

theorem sxQs_guard (all : List Oper) (n : Nat) (dst : Option Tmp) (op : Op) (ty : TypeId) (pos : String) (after : Array Edge) (g : Nat) (want : Bool) (rest : List Oper) (s : AS) (K : AS → Prop) :
    sxQs P T all (n + 1) ({ dst := dst, op := op, type := ty, pos := pos, after := after, guard := some (g, want) } :: rest) s K = QG P T all n dst op g want rest s K := by
  simp only [sxQs, QG, gBool, dstAt_eq]
  cases hd : dstAt all g with
  | none => rfl
  | some d =>
    simp only
    cases hs : s.tm[d]? with
    | none => rfl
    | some x =>
      cases x with
      | val v =>
        cases v with
        | bool b =>
          have ht := AS.tell_eq hs
          cases b <;> cases want <;> (simp [Br, QGo, QSkip, QN, ht, gv] <;> exact Iff.rfl)
        | _ => rfl
      | _ => rfl

/-- Bytes, as abstract elements. -/
def bys (xs : List Int) : List (List AV) := xs.map fun x => [.val (.int .u8 x)]
theorem bysLen (xs : List Int) : (bys xs).length = xs.length := by simp [bys]
theorem bysGet (xs : List Int) (i : Nat) : (bys xs)[i]? = (xs[i]?).map fun x => [.val (.int .u8 x)] := by simp [bys]
theorem bysTake (xs : List Int) (n : Nat) : (bys xs).take n = bys (xs.take n) := by simp [bys, List.map_take]
theorem bys_one (xs : List Int) (c : List AV) (i : Nat) (h : (bys xs)[i]? = some c) : c.length = 1 := by
  rw [bysGet] at h
  cases hq : xs[i]? with
  | none => simp [hq] at h
  | some y => simp [hq] at h; subst h; rfl

def keepL (σ : Nat → Nat) (L : List OB) : List Nat → List OB → Prop
  | [], [] => True
  | r :: ks, o :: os => L[r]? = some (o.ren σ) ∧ keepL σ L ks os
  | _, _ => False

theorem keepL_get {σ : Nat → Nat} {L : List OB} : ∀ {ks : List Nat} {os : List OB}, keepL σ L ks os → os.length = ks.length ∧ ∀ (j r : Nat) o, ks[j]? = some r → os[j]? = some o → L[r]? = some (o.ren σ)
  | [], [], _ => ⟨rfl, by simp⟩
  | r :: ks, o :: os, h => by
    obtain ⟨h1, h2⟩ := keepL_get h.2
    refine ⟨by simp [h1], fun j r' o' hr ho => ?_⟩
    cases j with
    | zero => simp at hr ho; subst hr; subst ho; exact h.1
    | succ j => exact h2 j r' o' (by simpa using hr) (by simpa using ho)
  | [], _ :: _, h => by cases h
  | _ :: _, [], h => by cases h

/-- What a body returns, the own blocks told by a list. -/
theorem fin_ks {nb : Nat} {R : AV → List OB → Prop} {s : AS} {x : AV} (ks : List Nat) (x' : AV) (L' : List OB) (hR : R x' L') (hx : x = x'.ren (nameK ks s.L.length)) (hL : keepL (nameK ks s.L.length) s.L ks L') (hnb : nb ≤ L'.length) (hn : ks.Nodup) (hfx : ∀ r ∈ fx, ks[r]? = some r) : Fin fx nb R s x :=
  fin_keep ks x' L' hR hnb hn (keepL_get hL).1 hx (keepL_get hL).2 hfx

/-- The same where the only own block that stays is the first one. -/
theorem fin_zero {fx : List Nat} {R : AV → List OB → Prop} {s : AS} {x : AV} (x' : AV) (o : OB) (hR : R x' [o]) (hx : x = x'.ren (nameK [0] s.L.length)) (hL : s.L[0]? = some (o.ren (nameK [0] s.L.length))) (hfx : ∀ r ∈ fx, r = 0) {nb : Nat} (hnb : nb ≤ 1) : Fin fx nb R s x :=
  fin_ks [0] x' [o] hR hx ⟨hL, trivial⟩ hnb (by simp) fun r hr => by rw [hfx r hr]; rfl

theorem filtL_one (r : Nat) (l : List AV) : l.map (AV.filt fun q => !(movedBy [r] [0]).contains q) = l := by
  have : (fun q : Nat => !(movedBy [r] [0]).contains q) = fun _ => true := by funext q; simp [movedBy]
  rw [this]
  induction l with
  | nil => rfl
  | cons x l ih => rw [List.map_cons, ih, AV.filt_true]

theorem AS.back_one (s : AS) (r : Nat) (o : OB) : s.back [r] [0] [o] = { s with L := s.L.set r (o.ren (nameIn [r] s.L.length)) } := by
  have : s.L.map (OB.filt fun q => !(movedBy [r] [0]).contains q) = s.L := by
    conv => rhs; rw [← List.map_id s.L]
    refine List.map_congr_left fun o _ => ?_
    cases o with
    | cells cs => simp only [OB.filt, filtL_one, id]
    | _ => rfl
  simp only [AS.back, filtL_one, this]
  simp [setAll]

/-- A call that is handed one own block, which stays where it is. -/
theorem acall_blk {f : FuncId} {args argsC : List AV} {o : OB} {R : AV → OB → Prop} (h : ACalls P f args [o] [0] (fun res L => ∃ o', L = [o'] ∧ R res o')) (r : Nat) {s : AS} (hL : s.L[r]? = some (o.ren (nameIn [r] s.L.length))) (hargs : argsC = args.map (AV.ren (nameIn [r] s.L.length)))
    {K : AV → AS → Prop} (hK : ∀ res o', R res o' → K (res.ren (nameIn [r] s.L.length)) { s with L := s.L.set r (o'.ren (nameIn [r] s.L.length)) }) : ACall P fx (.fn f []) argsC s K :=
  acall h s [r] (by simp) rfl (fun j q o1 hj ho => by
    cases j with
    | zero => simp at hj ho; subst hj; subst ho; exact hL
    | succ j => simp at hj) (fun j q hj _ => by
    cases j with
    | zero => simp
    | succ j => simp at hj) (by rw [List.append_nil]; exact hargs) fun res L' ⟨o', hL', hR⟩ _ => by
    subst hL'
    rw [AS.back_one]
    exact hK res o' hR

/-- A call that reads an own row as an immutable one, and hands back a plain value. -/
theorem acall_borrow {g : FuncId} {args : List AV} {v : Value} {r k : Nat} {es : List (List AV)} {s : AS} (hL : s.L[r]? = some (.vec k es)) (h : QCall P (.fn g []) (args.map (AV.frz r k es)) (.val v)) {K : AV → AS → Prop} (hK : K (.val v) s) : ACall P fx (.fn g []) args s K := by
  intro ρ a w vf vs hr hvf hvl hv
  have hr' : Rel ρ { s with tm := s.tm ++ args } { a with tmps := a.tmps ++ vs } w := by
    refine ⟨hr.dfr, by simp [hr.size, hvl], fun i u x h1 h2 => ?_, hr.hr⟩
    simp only at h1 h2
    by_cases hi : i < s.tm.length
    · rw [List.getElem?_append_left hi] at h2
      rw [Array.getElem?_append_left (by rw [hr.size]; exact hi)] at h1
      exact hr.tm i u x h1 h2
    · rw [List.getElem?_append_right (by omega)] at h2
      rw [Array.getElem?_append_right (by rw [hr.size]; omega), hr.size] at h1
      exact hv _ u x h1 h2
  obtain ⟨ρ1, h1, _⟩ := wk_frz (fx := []) (s := { s with tm := s.tm ++ args }) hL (by simp) ρ _ w hr'
  have hf : VR w ρ1 vf (.fn g []) := by
    cases hvf with
    | pr hp => cases hp
    | fn f cv _ hs hc => exact .fn _ _ _ hs (fun i v x h3 h4 => by simp at h4)
  refine (h ρ1 w _ vf vs h1.hr hf (by simpa using hvl) fun i u x h3 h4 => ?_).mono fun u w' ⟨hu, hg⟩ => ?_
  · refine h1.tm (s.tm.length + i) u x ?_ ?_
    · show (a.tmps ++ vs)[s.tm.length + i]? = _
      rw [Array.getElem?_append_right (by rw [hr.size]; omega), hr.size, Nat.add_sub_cancel_left]
      exact h3
    · simp only [AS.frz, List.map_append]
      rw [List.getElem?_append_right (by simp)]
      simpa using h4
  · have := val_inv hu
    subst this
    exact ⟨_, s, ρ, hK, hr.grow hg, .pr (.val _), .grow hg⟩

/-- A call in a region that draws its order. -/
def QC (P : Program) (f : AV) (args : List AV) (K : AV → Prop) : Prop := ∃ r, QCall P f args r ∧ K r
theorem qOp_call (f : Operand) (args : Array Operand) (ts : Array TypeId) (s : AS) (K : AV → Prop) : qOp P T (.call { callee := .value f, args := args, argTypes := ts }) s K = QC P (s.ev f) (args.toList.map s.ev) K := nrf rfl
theorem qc_one {f : FuncId} {args : List AV} {r : AV} (h : ACalls P f args [] [] (fun res L' => res = r ∧ L' = [])) (hfree : freeL args = true) {K : AV → Prop} (hK : K r) : QC P (.fn f []) args K := ⟨r, qcall_one h hfree, hK⟩

/-! ### Bodies by parts: a cut forgets what is not needed any more -/

/-- Behind a statement that ends normally comes the rest. -/
def AThen (P : Program) (fx : List Nat) (y : Code) (Q : Exit → AS → Prop) (e : Exit) (s : AS) : Prop :=
  match e with
  | .normal => awp P fx y Q s
  | .exit i => Q (.exit i) s
  | .goto l => Q (.goto l) s
  | .ret => Q .ret s
  | .panic c => Q (.panic c) s
  | .outgrown => Q .outgrown s

theorem awp_step (hT : TTOk P T) {x y : Code} {Q : Exit → AS → Prop} {s : AS} (h : sx P T fx bl x (AThen P fx y Q) s) : awp P fx (.seq x y) Q s :=
  awp_seq ((sx_sound hT x _ s h).mono fun e s' h' => by cases e <;> exact h')

/-- Behind a statement: a state that says less. -/
def CutQ {G : Type} (fx : List Nat) (I : G → Prop) (st : G → AS) (Q : Exit → AS → Prop) (e : Exit) (s : AS) : Prop :=
  match e with
  | .normal => ∃ g, I g ∧ Wk fx s (st g)
  | .exit i => Q (.exit i) s
  | .goto l => Q (.goto l) s
  | .ret => Q .ret s
  | .panic c => Q (.panic c) s
  | .outgrown => Q .outgrown s

theorem awp_cut (hT : TTOk P T) {x y : Code} {Q : Exit → AS → Prop} {s : AS} {G : Type} (I : G → Prop) (lo n : Nat) (vals : G → List (Nat × AV)) (Ls : G → List OB)
    (h : sx P T fx bl x (CutQ fx I (fun g => s.hav lo n (vals g) (Ls g)) Q) s) (h2 : ∀ g, I g → awp P fx y Q (s.hav lo n (vals g) (Ls g))) : awp P fx (.seq x y) Q s :=
  awp_seq ((sx_sound hT x _ s h).mono fun e s' h' => by
    cases e with
    | normal =>
      obtain ⟨g, hg, hw⟩ := h'
      exact awp_wk hw (h2 g hg)
    | _ => exact h')

theorem awp_end (hT : TTOk P T) {x : Code} {Q : Exit → AS → Prop} {s : AS} (h : sx P T fx bl x Q s) : awp P fx x Q s := sx_sound hT x Q s h
theorem AThen_normal (y : Code) (Q : Exit → AS → Prop) (s : AS) : AThen P fx y Q .normal s = awp P fx y Q s := nrf rfl
theorem AThen_ret (y : Code) (Q : Exit → AS → Prop) (s : AS) : AThen P fx y Q .ret s = Q .ret s := nrf rfl
theorem AThen_exit (y : Code) (Q : Exit → AS → Prop) (i : Nat) (s : AS) : AThen P fx y Q (.exit i) s = Q (.exit i) s := nrf rfl
theorem CutQ_normal {G : Type} (I : G → Prop) (st : G → AS) (Q : Exit → AS → Prop) (s : AS) : CutQ fx I st Q .normal s = ∃ g, I g ∧ Wk fx s (st g) := nrf rfl
theorem CutQ_ret {G : Type} (I : G → Prop) (st : G → AS) (Q : Exit → AS → Prop) (s : AS) : CutQ fx I st Q .ret s = Q .ret s := nrf rfl
theorem CutQ_exit {G : Type} (I : G → Prop) (st : G → AS) (Q : Exit → AS → Prop) (i : Nat) (s : AS) : CutQ fx I st Q (.exit i) s = Q (.exit i) s := nrf rfl

end
end Go.Pc
