/- The abstract logic, eleventh part: short rules for calls. -/
import Derived.Test.YtajkeegikligcaaDoorTy
set_option linter.unusedSimpArgs false
set_option linter.unusedVariables false
namespace Go.Pc
open Go

section
variable {P : Program} {T : TypeId → Ty} {fx bl : List Nat}

theorem filtL_true' (l : List AV) : l.map (AV.filt fun r => !(movedBy [] []).contains r) = l := by
  have : (fun r : Nat => !(movedBy [] []).contains r) = fun _ => true := by funext r; simp [movedBy]
  rw [this]
  induction l with
  | nil => rfl
  | cons x l ih => rw [List.map_cons, ih, AV.filt_true]

theorem OB.filt_true' (o : OB) : o.filt (fun r => !(movedBy [] []).contains r) = o := by
  cases o with
  | cells cs => simp only [OB.filt, filtL_true']
  | slab cs => simp only [OB.filt, filtL_true']
  | _ => rfl

theorem AS.back_nil (s : AS) : s.back [] [] [] = s := by
  have : s.L.map (OB.filt fun r => !(movedBy [] []).contains r) = s.L := by
    conv => rhs; rw [← List.map_id s.L]
    exact List.map_congr_left fun o _ => OB.filt_true' o
  simp only [AS.back, filtL_true', this]
  simp [setAll]

theorem freeL_ren' (σ : Nat → Nat) (l : List AV) (h : freeL l = true) : l.map (AV.ren σ) = l := by
  induction l with
  | nil => rfl
  | cons x l ih =>
    simp only [freeL, Bool.and_eq_true] at h
    rw [List.map_cons, ih h.2, AV.free_ren σ x h.1]

/-- A call of a function that is handed no own block and hands none back. -/
theorem acall_rel {f : FuncId} {args : List AV} {R : AV → Prop} (h : ACalls P f args [] [] (fun r L => (R r ∧ r.free = true) ∧ L = [])) (hfree : freeL args = true) {s : AS} {K : AV → AS → Prop} (hK : ∀ r, R r → K r s) :
    ACall P fx (.fn f []) args s K :=
  acall h s [] List.nodup_nil rfl (fun j r o h => by simp at h) (fun j r h => by simp at h) (by rw [freeL_ren' _ _ hfree, List.append_nil]) fun res L' ⟨⟨h1, h3⟩, h2⟩ _ => by
    subst h2
    rw [AV.free_ren _ _ h3, AS.back_nil]
    exact hK res h1

theorem acall_one {f : FuncId} {args : List AV} {x : AV} (h : ACalls P f args [] [] (fun r L => r = x ∧ L = [])) (hfree : freeL args = true) (hx : x.free = true) {s : AS} {K : AV → AS → Prop} (hK : K x s) :
    ACall P fx (.fn f []) args s K :=
  acall_rel (R := fun r => r = x) (h.mono fun _ _ ⟨h1, h2⟩ => ⟨⟨h1, h1 ▸ hx⟩, h2⟩) hfree fun _ hr => hr ▸ hK

theorem qcall_one {f : FuncId} {args : List AV} {r : AV} (h : ACalls P f args [] [] (fun res L' => res = r ∧ L' = [])) (hfree : freeL args = true) : QCall P (.fn f []) args r :=
  qcall_of (caps := []) (by rwa [List.append_nil]) (by rwa [List.append_nil])

/-! ### The operations in tail form: what goes on stands last and is not looked into before its turn -/

def Opt {α : Type} (o : Option α) (K : α → Prop) : Prop := ∃ r, o = some r ∧ K r
theorem Opt_some {α : Type} (a : α) (K : α → Prop) : Opt (some a) K = K a := by simp [Opt]
def OptC (o : Option OB) (K : List AV → Prop) : Prop := ∃ cs, o = some (.cells cs) ∧ K cs
theorem OptC_cells (cs : List AV) (K : List AV → Prop) : OptC (some (.cells cs)) K = K cs := by simp [OptC]
def OptV (o : Option OB) (k : Nat) (K : List (List AV) → Prop) : Prop := ∃ es, o = some (.vec k es) ∧ K es
theorem OptV_vec (k : Nat) (es : List (List AV)) (K : List (List AV) → Prop) : OptV (some (.vec k es)) k K = K es := by simp [OptV]
def Req {α : Type} (A : Prop) (K : α → Prop) (r : α) : Prop := A ∧ K r
theorem Req_true {α : Type} (K : α → Prop) (r : α) : Req True K r = K r := by simp [Req]
theorem req {α : Type} {A : Prop} {K : α → Prop} {r : α} (h : A) (hk : K r) : Req A K r := ⟨h, hk⟩

def CAt (K : List AV → Nat → Prop) (off : Nat) (cs : List AV) : Prop := K cs off
def VAt (K : List AV → Nat → Prop) (i off : Nat) (es : List (List AV)) : Prop := Opt es[i]? (CAt K off)
theorem cellsAt_ip (s : AS) (cs : List AV) (K : List AV → Nat → Prop) : cellsAt s (.ip cs) K = K cs 0 := nrf rfl
theorem cellsAt_ptr (s : AS) (r off : Nat) (K : List AV → Nat → Prop) : cellsAt s (.ptr r off) K = OptC s.L[r]? (CAt K off) := nrf rfl
def SlbC (K : List AV → Nat → Prop) (c : AV) : Prop := K [c] 0
def SlbAt (K : List AV → Nat → Prop) (i : Nat) (cs : List AV) : Prop := Opt cs[i]? (SlbC K)
theorem SlbC_x (K : List AV → Nat → Prop) (c : AV) : SlbC K c = K [c] 0 := nrf rfl
theorem SlbAt_x (K : List AV → Nat → Prop) (i : Nat) (cs : List AV) : SlbAt K i cs = Opt cs[i]? (SlbC K) := nrf rfl
def VpQ (o : Option OB) (k i off : Nat) (K : List AV → Nat → Prop) : Prop := OptV o k (VAt K i off) ∨ (k = 1 ∧ off = 0 ∧ ∃ cs, o = some (.slab cs) ∧ SlbAt K i cs)
theorem VpQ_vec (k i off : Nat) (es : List (List AV)) (K : List AV → Nat → Prop) : VpQ (some (.vec k es)) k i off K = VAt K i off es := by simp [VpQ, OptV]
theorem VpQ_slab (i : Nat) (cs : List AV) (K : List AV → Nat → Prop) : VpQ (some (.slab cs)) 1 i 0 K = SlbAt K i cs := by simp [VpQ, OptV]
theorem cellsAt_vp (s : AS) (r k i off : Nat) (K : List AV → Nat → Prop) : cellsAt s (.vp r k i off) K = VpQ s.L[r]? k i off K := nrf rfl

def LoadGo (T : TypeId → Ty) (t : TypeId) (K : AV → Prop) (cs : List AV) (off : Nat) : Prop := Opt (rdC (T t) cs off) K
theorem qLoad_sx (t : TypeId) (s : AS) (x : AV) (K : AV → Prop) : qLoad T t s x K = Req ((T t).kd.ok = true) (cellsAt s x) (LoadGo T t K) := nrf rfl

theorem move_ip (cs : List AV) (n : Nat) (K : AV → Prop) : AV.move (.ip cs) n K = Req (n ≤ cs.length) K (.ip (cs.drop n)) := nrf rfl
theorem move_ptr (r off n : Nat) (K : AV → Prop) : AV.move (.ptr r off) n K = K (.ptr r (off + n)) := nrf rfl
theorem move_vp (r k i off n : Nat) (K : AV → Prop) : AV.move (.vp r k i off) n K = K (.vp r k i (off + n)) := nrf rfl

def FieldGo (T : TypeId → Ty) (x : AV) (K : AV → Prop) (p : Nat × TypeId) : Prop := (T p.2).kd.ok = true ∧ (T p.2).size ≠ 0 ∧ x.move p.1 K
theorem FieldGo_sx (x : AV) (K : AV → Prop) (p : Nat × TypeId) : FieldGo T x K p = Req ((T p.2).kd.ok = true ∧ (T p.2).size ≠ 0) (AV.move x p.1) K := by simp [FieldGo, Req, and_assoc]
theorem qField_sx (t : TypeId) (x : AV) (f : Nat) (K : AV → Prop) : qField T t x f K = (match (T t).kd with | .struct fs => Opt fs[f]? (FieldGo T x K) | _ => False) := nrf rfl

def IxC (T : TypeId → Ty) (e : TypeId) (K : AV → Prop) (c : List AV) : Prop := Req (c.length = (T e).size) K (.ip c)
def IxSl (T : TypeId → Ty) (e : TypeId) (x : AV) (K : AV → Prop) (n : Int) : Prop :=
  match x with
  | .sl es => ∃ c, es[n.toNat]? = some c ∧ c.length = (T e).size ∧ K (.ip c)
  | .os r k off len => k = (T e).size ∧ n < len ∧ K (.vp r k (off + n.toNat) 0)
  | _ => False
theorem IxSl_sl (e : TypeId) (es : List (List AV)) (K : AV → Prop) (n : Int) : IxSl T e (.sl es) K n = Opt es[n.toNat]? (IxC T e K) := nrf rfl
theorem IxSl_os (e : TypeId) (r k off len : Nat) (K : AV → Prop) (n : Int) : IxSl T e (.os r k off len) K n = Req (k = (T e).size ∧ n < len) K (.vp r k (off + n.toNat) 0) := by simp [IxSl, Req, and_assoc]
def IxGo (T : TypeId → Ty) (t : TypeId) (x : AV) (K : AV → Prop) (n : Int) : Prop :=
  match (T t).kd with
  | .slice e => Req ((T e).kd.ok = true) (IxSl T e x K) n
  | .array len e => Req ((T e).kd.ok = true ∧ n < len) (AV.move x (n.toNat * (T e).size)) K
  | _ => False
theorem qIndexAddr_sx (t : TypeId) (x : AV) (k : IntKind) (n : Int) (K : AV → Prop) : qIndexAddr T t x (.val (.int k n)) K = Req (0 ≤ n) (IxGo T t x K) n := by
  simp only [qIndexAddr, IxGo, Req]
  cases (T t).kd <;> simp only [and_assoc] <;> rfl

def PartR (T : TypeId → Ty) (cs : List AV) (p : Nat × TypeId) (K : AV → Prop) : Prop := Opt (rdC (T p.2) cs p.1) K
def PartGo (T : TypeId → Ty) (cs : List AV) (K : AV → Prop) (p : Nat × TypeId) : Prop := Req ((T p.2).kd.ok = true) (PartR T cs p) K
theorem qPart_sx (t : TypeId) (cs : List AV) (f : Nat) (K : AV → Prop) : qPart T t (.agg cs) f K = (match (T t).kd with | .struct fs => Opt fs[f]? (PartGo T cs K) | _ => False) := by
  simp only [qPart]
  cases (T t).kd <;> rfl

def IndR (T : TypeId → Ty) (e : TypeId) (cs : List AV) (n : Int) (K : AV → Prop) : Prop := Opt (rdC (T e) cs (n.toNat * (T e).size)) K
def IndA (T : TypeId → Ty) (t : TypeId) (cs : List AV) (K : AV → Prop) (n : Int) : Prop :=
  match (T t).kd with
  | .array len e => Req ((T e).kd.ok = true ∧ n < len) (IndR T e cs n) K
  | _ => False
theorem qIndex_agg (t : TypeId) (cs : List AV) (k : IntKind) (n : Int) (K : AV → Prop) : qIndex T t (.agg cs) (.val (.int k n)) K = Req (0 ≤ n) (IndA T t cs K) n := by
  simp only [qIndex, IndA, Req, IndR, Opt]
  cases (T t).kd <;> simp only [and_assoc]
def IndS (K : AV → Prop) (b : UInt8) : Prop := K (.val (.int .u8 b.toNat))
def IndT (T : TypeId → Ty) (t : TypeId) (s : ByteArray) (K : AV → Prop) (n : Int) : Prop :=
  match (T t).kd with
  | .str => Opt s[n.toNat]? (IndS K)
  | _ => False
theorem qIndex_str (t : TypeId) (s : ByteArray) (k : IntKind) (n : Int) (K : AV → Prop) : qIndex T t (.val (.string s)) (.val (.int k n)) K = Req (0 ≤ n) (IndT T t s K) n := by
  simp only [qIndex, IndT, Req]
  cases (T t).kd <;> rfl

theorem qExtract_tup (l : List AV) (i : Nat) (K : AV → Prop) : qExtract (.tup l) i K = Opt l[i]? K := nrf rfl

def BuK (K : AV → Prop) (r : List AV) : Prop := K (.agg r)
def BuS (T : TypeId → Ty) (t : TypeId) (ps : List (Nat × AV)) (fs : List (Nat × TypeId)) (K : AV → Prop) : Prop := Opt (fillA (fun i => (fs[i]?).map fun p => (p.1, (T p.2).size)) ((T t).zero.map AV.val) ps) (BuK K)
def BuA (T : TypeId → Ty) (t : TypeId) (ps : List (Nat × AV)) (e : TypeId) (K : AV → Prop) : Prop := Opt (fillA (fun i => some (i * (T e).size, (T e).size)) ((T t).zero.map AV.val) ps) (BuK K)
theorem qBuild_sx (t : TypeId) (ps : List (Nat × AV)) (K : AV → Prop) : qBuild T t ps K = (match (T t).kd with
    | .struct fs => Req (fs.all (fun p => (T p.2).kd.ok) = true) (BuS T t ps fs) K
    | .array _ e => Req ((T e).kd.ok = true) (BuA T t ps e) K
    | _ => False) := nrf rfl

def ConvI (T : TypeId → Ty) (dst : TypeId) (n : Int) (K : AV → Prop) : Prop :=
  match (T dst).kd with
  | .intk k => K (.val (.int k (k.wrap n)))
  | _ => False
theorem qConv_int (src dst : TypeId) (k : IntKind) (n : Int) (K : AV → Prop) : qConv T src dst (.val (.int k n)) K = Req ((T src).kd.ok = true) (ConvI T dst n) K := by
  simp only [qConv, ConvI, Req]
  cases (T dst).kd <;> rfl

def SlH (T : TypeId → Ty) (e : TypeId) (es : List (List AV)) (K : AV → Prop) (l h : Nat) : Prop := Req (l ≤ h ∧ h ≤ es.length ∧ ∀ c, es[0]? = some c → c.length = (T e).size) K (.sl ((es.take h).drop l))
def SlL (T : TypeId → Ty) (e : TypeId) (es : List (List AV)) (hi : Option AV) (K : AV → Prop) (l : Nat) : Prop := Opt (bnd es.length hi) (SlH T e es K l)
def SlGo (T : TypeId → Ty) (e : TypeId) (es : List (List AV)) (lo hi : Option AV) (K : AV → Prop) : Prop := Opt (bnd 0 lo) (SlL T e es hi K)
theorem qSlice_sl (t : TypeId) (es : List (List AV)) (lo hi : Option AV) (K : AV → Prop) : qSlice T t (.sl es) lo hi none K = (match (T t).kd with
    | .slice e => Req ((T e).kd.ok = true) (SlGo T e es lo hi) K
    | _ => False) := by
  simp only [qSlice, Req, SlGo, SlL, SlH, Opt, true_and]
  cases (T t).kd <;> simp only [and_assoc]
def SoH (k r off n : Nat) (K : AV → Prop) (l h : Nat) : Prop := Req (l ≤ h ∧ h ≤ n) K (.os r k (off + l) (h - l))
def SoL (k r off n : Nat) (hi : Option AV) (K : AV → Prop) (l : Nat) : Prop := Opt (bnd n hi) (SoH k r off n K l)
def SoGo (k r off n : Nat) (lo hi : Option AV) (K : AV → Prop) : Prop := Opt (bnd 0 lo) (SoL k r off n hi K)
theorem qSlice_os (t : TypeId) (k r off n : Nat) (lo hi : Option AV) (K : AV → Prop) : qSlice T t (.os r k off n) lo hi none K = (match (T t).kd with
    | .slice e => Req ((T e).kd.ok = true ∧ k = (T e).size) (SoGo k r off n lo hi) K
    | _ => False) := by
  simp only [qSlice, Req, SoGo, SoL, SoH, Opt, true_and]
  cases (T t).kd <;> simp only [and_assoc]

def EqK (K : AV → Prop) (b : Bool) : Prop := K (.val (.bool b))
def NeK (K : AV → Prop) (b : Bool) : Prop := K (.val (.bool (!b)))
def AggE (T : TypeId → Ty) (t : TypeId) (xs ys : List AV) (K : AV → Prop) : Prop := Opt (eqA (T t).eqk xs ys) (EqK K)
def AggN (T : TypeId → Ty) (t : TypeId) (xs ys : List AV) (K : AV → Prop) : Prop := Opt (eqA (T t).eqk xs ys) (NeK K)
theorem qBin_aggE (t : TypeId) (xs ys : List AV) (K : AV → Prop) : qBin T .eql t (.agg xs) (.agg ys) K = Req ((T t).eqk ≠ []) (AggE T t xs ys) K := nrf rfl
theorem qBin_aggN (t : TypeId) (xs ys : List AV) (K : AV → Prop) : qBin T .neq t (.agg xs) (.agg ys) K = Req ((T t).eqk ≠ []) (AggN T t xs ys) K := nrf rfl
theorem qBin_nilE (t : TypeId) (es : List (List AV)) (K : AV → Prop) : qBin T .eql t (.sl es) (.val (.slice none 0 0)) K = Req (es ≠ [] ∧ (T t).kd.isSl = true) K (.val (.bool false)) := nrf rfl
theorem qBin_nilN (t : TypeId) (es : List (List AV)) (K : AV → Prop) : qBin T .neq t (.sl es) (.val (.slice none 0 0)) K = Req (es ≠ [] ∧ (T t).kd.isSl = true) K (.val (.bool true)) := nrf rfl
theorem qBin_boolE (t : TypeId) (a b : Bool) (K : AV → Prop) : qBin T .eql t (.val (.bool a)) (.val (.bool b)) K = Req ((T t).kd = .bool) K (.val (.bool (decide (a = b)))) := nrf rfl
theorem qBin_boolN (t : TypeId) (a b : Bool) (K : AV → Prop) : qBin T .neq t (.val (.bool a)) (.val (.bool b)) K = Req ((T t).kd = .bool) K (.val (.bool (!decide (a = b)))) := nrf rfl
theorem qBin_strE (t : TypeId) (a b : ByteArray) (K : AV → Prop) : qBin T .eql t (.val (.string a)) (.val (.string b)) K = K (.val (.bool (decide (a = b)))) := nrf rfl
theorem qBin_strN (t : TypeId) (a b : ByteArray) (K : AV → Prop) : qBin T .neq t (.val (.string a)) (.val (.string b)) K = K (.val (.bool (!decide (a = b)))) := nrf rfl
theorem qBin_strA (t : TypeId) (a b : ByteArray) (K : AV → Prop) : qBin T .add t (.val (.string a)) (.val (.string b)) K = Req (a.size + b.size ≤ 9223372036854775807) K (.val (.string (a ++ b))) := nrf rfl
theorem qBin_add (t : TypeId) (k : IntKind) (a b : Int) (K : AV → Prop) : qBin T .add t (.val (.int k a)) (.val (.int k b)) K = K (.val (.int k (k.wrap (a + b)))) := by simp [qBin]
theorem qBin_sub (t : TypeId) (k : IntKind) (a b : Int) (K : AV → Prop) : qBin T .sub t (.val (.int k a)) (.val (.int k b)) K = K (.val (.int k (k.wrap (a - b)))) := by simp [qBin]
theorem qBin_mul (t : TypeId) (k : IntKind) (a b : Int) (K : AV → Prop) : qBin T .mul t (.val (.int k a)) (.val (.int k b)) K = K (.val (.int k (k.wrap (a * b)))) := by simp [qBin]
theorem qBin_quo (t : TypeId) (k : IntKind) (a b : Int) (K : AV → Prop) : qBin T .quo t (.val (.int k a)) (.val (.int k b)) K = Req (b ≠ 0) K (.val (.int k (k.wrap (a.tdiv b)))) := by simp [qBin, Req]
theorem qBin_rem (t : TypeId) (k : IntKind) (a b : Int) (K : AV → Prop) : qBin T .rem t (.val (.int k a)) (.val (.int k b)) K = Req (b ≠ 0) K (.val (.int k (a.tmod b))) := by simp [qBin, Req]
theorem qBin_eql (t : TypeId) (k : IntKind) (a b : Int) (K : AV → Prop) : qBin T .eql t (.val (.int k a)) (.val (.int k b)) K = K (.val (.bool (decide (a = b)))) := by simp [qBin]
theorem qBin_neq (t : TypeId) (k : IntKind) (a b : Int) (K : AV → Prop) : qBin T .neq t (.val (.int k a)) (.val (.int k b)) K = K (.val (.bool (!decide (a = b)))) := by simp [qBin]
theorem qBin_lss (t : TypeId) (k : IntKind) (a b : Int) (K : AV → Prop) : qBin T .lss t (.val (.int k a)) (.val (.int k b)) K = K (.val (.bool (decide (a < b)))) := by simp [qBin]
theorem qBin_leq (t : TypeId) (k : IntKind) (a b : Int) (K : AV → Prop) : qBin T .leq t (.val (.int k a)) (.val (.int k b)) K = K (.val (.bool (decide (a ≤ b)))) := by simp [qBin]
theorem qBin_gtr (t : TypeId) (k : IntKind) (a b : Int) (K : AV → Prop) : qBin T .gtr t (.val (.int k a)) (.val (.int k b)) K = K (.val (.bool (decide (b < a)))) := by simp [qBin]
theorem qBin_geq (t : TypeId) (k : IntKind) (a b : Int) (K : AV → Prop) : qBin T .geq t (.val (.int k a)) (.val (.int k b)) K = K (.val (.bool (decide (b ≤ a)))) := by simp [qBin]
theorem qBin_xor (t : TypeId) (k : IntKind) (a b : Int) (K : AV → Prop) : qBin T .xor t (.val (.int k a)) (.val (.int k b)) K = K (.val (.int k (k.wrap (BitVec.ofInt k.bits a ^^^ BitVec.ofInt k.bits b).toNat))) := by simp [qBin]

theorem sAlloc_sx (e : TypeId) (s : AS) (K : AV → AS → Prop) : sAlloc T e s K = Req ((T e).kd.ok = true) (K (.ptr s.L.length 0)) (s.push (.cells ((T e).zero.map AV.val))) := nrf rfl
def BoxGo (s : AS) (K : AV → AS → Prop) (cs : List AV) : Prop := K (.ptr s.L.length 0) (s.push (.cells cs))
theorem sBox_sx (x : AV) (s : AS) (K : AV → AS → Prop) : sBox x s K = Opt (cellsOf x) (BoxGo s K) := nrf rfl

def StQ (s : AS) (K : AS → Prop) (r off : Nat) (xs cs : List AV) : Prop := Req (off + xs.length ≤ cs.length) K { s with L := s.L.set r (.cells (putAt cs off xs)) }
def StP (s : AS) (K : AS → Prop) (r off : Nat) (xs : List AV) : Prop := OptC s.L[r]? (StQ s K r off xs)
def StX (s : AS) (K : AS → Prop) (r k i off : Nat) (xs : List AV) (es : List (List AV)) (e : List AV) : Prop := Req (off + xs.length ≤ e.length) K { s with L := s.L.set r (.vec k (es.set i (putAt e off xs))) }
def StW (s : AS) (K : AS → Prop) (r k i off : Nat) (xs : List AV) (es : List (List AV)) : Prop := Opt es[i]? (StX s K r k i off xs es)
def StV (s : AS) (K : AS → Prop) (r k i off : Nat) (xs : List AV) : Prop := OptV s.L[r]? k (StW s K r k i off xs)
def StUo (o : Option OB) (s : AS) (K : AS → Prop) (r k i off : Nat) (xs : List AV) : Prop := (xs.all AV.pure = true ∧ OptV o k (StW s K r k i off xs)) ∨
    (k = 1 ∧ off = 0 ∧ ∃ cs x, o = some (.slab cs) ∧ xs = [x] ∧ i < cs.length ∧ K { s with L := s.L.set r (.slab (cs.set i x)) })
def StU (s : AS) (K : AS → Prop) (r k i off : Nat) (xs : List AV) : Prop := StUo s.L[r]? s K r k i off xs
theorem StU_x (s : AS) (K : AS → Prop) (r k i off : Nat) (xs : List AV) : StU s K r k i off xs = StUo s.L[r]? s K r k i off xs := nrf rfl
theorem StUo_vec (s : AS) (K : AS → Prop) (r k i off : Nat) (xs : List AV) (es : List (List AV)) : StUo (some (.vec k es)) s K r k i off xs = Req (xs.all AV.pure = true) (StW s K r k i off xs) es := by simp [StUo, OptV, Req]
theorem StUo_slab (s : AS) (K : AS → Prop) (r i : Nat) (x : AV) (cs : List AV) : StUo (some (.slab cs)) s K r 1 i 0 [x] = Req (i < cs.length) K { s with L := s.L.set r (.slab (cs.set i x)) } := by simp [StUo, OptV, Req]
def StS (T : TypeId → Ty) (t : TypeId) (x : AV) (s : AS) (K : AS → Prop) (xs : List AV) : Prop := xs.length = (T t).size ∧ xs.all AV.one = true ∧
  match x with
  | .ptr r off => StP s K r off xs
  | .vp r k i off => StU s K r k i off xs
  | _ => False
def StGo (T : TypeId → Ty) (t : TypeId) (x y : AV) (s : AS) (K : AS → Prop) : Prop := Opt (cellsOf y) (StS T t x s K)
theorem StS_ptr (t : TypeId) (r off : Nat) (s : AS) (K : AS → Prop) (xs : List AV) : StS T t (.ptr r off) s K xs = Req (xs.length = (T t).size ∧ xs.all AV.one = true) (StP s K r off) xs := by simp [StS, Req, and_assoc]
theorem StS_vp (t : TypeId) (r k i off : Nat) (s : AS) (K : AS → Prop) (xs : List AV) : StS T t (.vp r k i off) s K xs = Req (xs.length = (T t).size ∧ xs.all AV.one = true) (StU s K r k i off) xs := by simp [StS, Req, and_assoc]
theorem sStore_sx (t : TypeId) (x y : AV) (s : AS) (K : AS → Prop) : sStore T t x y s K = Req ((T t).kd.ok = true) (StGo T t x y s) K := by
  simp only [sStore, Req, StGo, Opt, StS]
  cases x <;> rfl

theorem sMake_sx (t : TypeId) (k k2 : IntKind) (n : Int) (s : AS) (K : AV → AS → Prop) : sMake T t (.val (.int k n)) (.val (.int k2 n)) s K = (match (T t).kd with
    | .slice e => Req ((T e).kd.ok = true ∧ 0 < (T e).size ∧ 0 ≤ n ∧ (T e).bytes * n.toNat ≤ 281474976710656 ∧ n.toNat ≤ 9223372036854775807) (K (.os s.L.length (T e).size 0 n.toNat)) (s.push (.vec (T e).size (List.replicate n.toNat ((T e).zero.map AV.val))))
    | _ => False) := by
  simp only [sMake, Req]
  cases (T t).kd <;> simp only [and_assoc, true_and]

def LitY (T : TypeId → Ty) (bo : Bool) (e : TypeId) (n : Nat) (s : AS) (K : AV → AS → Prop) (es : List (List AV)) : Prop := if bo || n == 0 then K (.os s.L.length (T e).size 0 n) (s.push (.vec (T e).size es)) else K (.sl es) s
def LitX (T : TypeId → Ty) (bo : Bool) (e : TypeId) (n : Nat) (s : AS) (K : AV → AS → Prop) (xs : List AV) : Prop := Opt (litRow (T e).size xs) (LitY T bo e n s K)
def LitGo (T : TypeId → Ty) (bo : Bool) (e : TypeId) (n : Nat) (ps : List (Nat × AV)) (s : AS) (K : AV → AS → Prop) : Prop := Opt (inOrd 0 ps) (LitX T bo e n s K)
theorem sLit_sx (bo : Bool) (t : TypeId) (n : Nat) (ps : List (Nat × AV)) (s : AS) (K : AV → AS → Prop) : sLit T bo t n ps s K = (match (T t).kd with
    | .slice e => Req ((T e).kd.ok = true ∧ 0 < (T e).size ∧ n * (T e).size ≤ 16777216 ∧ ps.length = n) (LitGo T bo e n ps s) K
    | _ => False) := by
  simp only [sLit, Req, LitGo, LitX, LitY, Opt]
  cases (T t).kd <;> simp only [and_assoc]

def ApW (T : TypeId → Ty) (e : TypeId) (r k off n : Nat) (news : List (List AV)) (s : AS) (K : AV → AS → Prop) (es : List (List AV)) : Prop :=
  Req (off + n = es.length ∧ (n + news.length) * (T e).bytes ≤ 140737488355328 ∧ n + news.length ≤ 9223372036854775807) (K (.os r k 0 (n + news.length))) { s.kill r with L := (s.kill r).L.set r (.vec k (es.drop off ++ news)) }
def ApV (T : TypeId → Ty) (e : TypeId) (r k off n : Nat) (news : List (List AV)) (s : AS) (K : AV → AS → Prop) : Prop := OptV s.L[r]? k (ApW T e r k off n news s K)
def ApN (T : TypeId → Ty) (fx : List Nat) (e : TypeId) (r k off n : Nat) (s : AS) (K : AV → AS → Prop) (news : List (List AV)) : Prop :=
  Req ((∀ c ∈ news, c.length = (T e).size ∧ c.all AV.one = true ∧ c.all AV.pure = true) ∧ r ∉ fx ∧ k = (T e).size) (ApV T e r k off n news s) K
def ApGo (T : TypeId → Ty) (fx : List Nat) (e : TypeId) (r k off n : Nat) (y : AV) (s : AS) (K : AV → AS → Prop) : Prop := Opt (elemsOf s y) (ApN T fx e r k off n s K)
theorem sAppend_os (t : TypeId) (r k off n : Nat) (y : AV) (s : AS) (K : AV → AS → Prop) : sAppend T fx t (.os r k off n) y s K = (match (T t).kd with
    | .slice e => Req ((T e).kd.ok = true ∧ 0 < (T e).size) (ApGo T fx e r k off n y s) K
    | _ => False) := by
  simp only [sAppend, Req, ApGo, ApN, ApV, ApW, Opt, OptV]
  cases (T t).kd <;> simp only [and_assoc]
def ApPW (T : TypeId → Ty) (e : TypeId) (r k off n : Nat) (news : List (List AV)) (s : AS) (K : AV → AS → Prop) (es : List (List AV)) : Prop :=
  Req (off + n ≤ es.length ∧ (n + news.length) * (T e).bytes ≤ 140737488355328 ∧ n + news.length ≤ 9223372036854775807) (K (.os r k 0 (n + news.length))) { s.kill r with L := (s.kill r).L.set r (.vec k ((es.take (off + n)).drop off ++ news)) }
def ApPV (T : TypeId → Ty) (e : TypeId) (r k off n : Nat) (news : List (List AV)) (s : AS) (K : AV → AS → Prop) : Prop := OptV s.L[r]? k (ApPW T e r k off n news s K)
def ApPN (T : TypeId → Ty) (fx : List Nat) (e : TypeId) (r k off n : Nat) (s : AS) (K : AV → AS → Prop) (news : List (List AV)) : Prop :=
  Req ((∀ c ∈ news, c.length = (T e).size ∧ c.all AV.one = true ∧ c.all AV.pure = true) ∧ r ∉ fx ∧ k = (T e).size) (ApPV T e r k off n news s) K
def ApPGo (T : TypeId → Ty) (fx : List Nat) (e : TypeId) (r k off n : Nat) (y : AV) (s : AS) (K : AV → AS → Prop) : Prop := Opt (elemsOf s y) (ApPN T fx e r k off n s K)
theorem sAppendP_os (t : TypeId) (r k off n : Nat) (y : AV) (s : AS) (K : AV → AS → Prop) : sApp T fx true t (.os r k off n) y s K = (match (T t).kd with
    | .slice e => Req ((T e).kd.ok = true ∧ 0 < (T e).size) (ApPGo T fx e r k off n y s) K
    | _ => False) := by
  simp only [sApp, sAppendP, Req, ApPGo, ApPN, ApPV, ApPW, Opt, OptV]
  cases (T t).kd <;> simp only [and_assoc]
theorem sApp_false (t : TypeId) (x y : AV) (s : AS) (K : AV → AS → Prop) : sApp T fx false t x y s K = sAppend T fx t x y s K := nrf rfl
def AnN (T : TypeId → Ty) (e : TypeId) (s : AS) (K : AV → AS → Prop) (news : List (List AV)) : Prop :=
  Req ((∀ c ∈ news, c.length = (T e).size ∧ c.all AV.one = true ∧ c.all AV.pure = true) ∧ news.length * (T e).bytes ≤ 140737488355328 ∧ news.length ≤ 9223372036854775807) (K (.os s.L.length (T e).size 0 news.length)) (s.push (.vec (T e).size news))
def AnGo (T : TypeId → Ty) (e : TypeId) (y : AV) (s : AS) (K : AV → AS → Prop) : Prop := Opt (elemsOf s y) (AnN T e s K)
theorem sAppend_nil (t : TypeId) (y : AV) (s : AS) (K : AV → AS → Prop) : sAppend T fx t (.val (.slice none 0 0)) y s K = (match (T t).kd with
    | .slice e => Req ((T e).kd.ok = true ∧ 0 < (T e).size) (AnGo T e y s) K
    | _ => False) := by
  simp only [sAppend, Req, AnGo, AnN, Opt]
  cases (T t).kd <;> simp only [and_assoc]

/-! ### Rows of eight -/

/-- Eight cells and the rest: long rows are read and written in fewer steps. -/
def W8 (a b c d e f g h : AV) (r : List AV) : List AV := a :: b :: c :: d :: e :: f :: g :: h :: r

variable (a b c d e f g h x y : AV) (r : List AV) (n : Nat)
theorem w8s0 : (W8 a b c d e f g h r).set 0 x = W8 x b c d e f g h r := nrf rfl
theorem w8d0 : (W8 a b c d e f g h r).getD 0 y = a := nrf rfl
theorem w8g0 : (W8 a b c d e f g h r)[0]? = some a := nrf rfl
theorem w8s1 : (W8 a b c d e f g h r).set 1 x = W8 a x c d e f g h r := nrf rfl
theorem w8d1 : (W8 a b c d e f g h r).getD 1 y = b := nrf rfl
theorem w8g1 : (W8 a b c d e f g h r)[1]? = some b := nrf rfl
theorem w8s2 : (W8 a b c d e f g h r).set 2 x = W8 a b x d e f g h r := nrf rfl
theorem w8d2 : (W8 a b c d e f g h r).getD 2 y = c := nrf rfl
theorem w8g2 : (W8 a b c d e f g h r)[2]? = some c := nrf rfl
theorem w8s3 : (W8 a b c d e f g h r).set 3 x = W8 a b c x e f g h r := nrf rfl
theorem w8d3 : (W8 a b c d e f g h r).getD 3 y = d := nrf rfl
theorem w8g3 : (W8 a b c d e f g h r)[3]? = some d := nrf rfl
theorem w8s4 : (W8 a b c d e f g h r).set 4 x = W8 a b c d x f g h r := nrf rfl
theorem w8d4 : (W8 a b c d e f g h r).getD 4 y = e := nrf rfl
theorem w8g4 : (W8 a b c d e f g h r)[4]? = some e := nrf rfl
theorem w8s5 : (W8 a b c d e f g h r).set 5 x = W8 a b c d e x g h r := nrf rfl
theorem w8d5 : (W8 a b c d e f g h r).getD 5 y = f := nrf rfl
theorem w8g5 : (W8 a b c d e f g h r)[5]? = some f := nrf rfl
theorem w8s6 : (W8 a b c d e f g h r).set 6 x = W8 a b c d e f x h r := nrf rfl
theorem w8d6 : (W8 a b c d e f g h r).getD 6 y = g := nrf rfl
theorem w8g6 : (W8 a b c d e f g h r)[6]? = some g := nrf rfl
theorem w8s7 : (W8 a b c d e f g h r).set 7 x = W8 a b c d e f g x r := nrf rfl
theorem w8d7 : (W8 a b c d e f g h r).getD 7 y = h := nrf rfl
theorem w8g7 : (W8 a b c d e f g h r)[7]? = some h := nrf rfl
theorem w8sn : (W8 a b c d e f g h r).set (n + 8) x = W8 a b c d e f g h (r.set n x) := nrf rfl
theorem w8dn : (W8 a b c d e f g h r).getD (n + 8) y = r.getD n y := nrf rfl
theorem w8gn : (W8 a b c d e f g h r)[n + 8]? = r[n]? := nrf rfl
theorem w8m (k : AV → AV) : (W8 a b c d e f g h r).map k = W8 (k a) (k b) (k c) (k d) (k e) (k f) (k g) (k h) (r.map k) := nrf rfl

omit a b c d e f g h x y r n
theorem acalls_tm (hT : TTOk P T) {fn' : FuncId} {fn : Func} {co : Code} {args : List AV} {L0 : List OB} {R : AV → List OB → Prop} (hf : P.funcs[fn']? = some fn) (hb : fn.body = some co) (he : Enters P fn') (m : Nat) (hn : fn.ntmps - args.length = m) (tm0 : List AV) (h0 : args ++ List.replicate m .any = tm0) {rv : List ResultVar} (hrv : fn.results = rv.toArray)
    (hh : awp P fx co (Ret T fx rv L0.length R) ⟨tm0, L0⟩) : ACalls P fn' args L0 fx R :=
  acalls_intro hT hf hb he m hn hrv (by rw [h0]; exact hh)

/-! ### Loops over a part of the temporaries -/

/-- Some temporaries in a row are junk. -/
def anyAt : Nat → Nat → List AV → List AV
  | _, 0, l => l
  | lo, n + 1, l => anyAt (lo + 1) n (l.set lo .any)

def setVs (tm : List AV) : List (Nat × AV) → List AV
  | [] => tm
  | (i, x) :: l => setVs (tm.set i x) l

/-- A loop's state: some temporaries in a row are junk, some hold what the ghost tells. -/
def AS.hav (s : AS) (lo n : Nat) (vals : List (Nat × AV)) (L : List OB) : AS := ⟨setVs (anyAt lo n s.tm) vals, L⟩

theorem awp_loop_h {c : Code} {Q : Exit → AS → Prop} {s : AS} {G : Type} (lo n : Nat) (vals : G → List (Nat × AV)) (Ls : G → List OB) (I : G → Prop) (μ : G → Nat) (g0 : G) (hI : I g0)
    (h0 : Wk fx s (s.hav lo n (vals g0) (Ls g0))) (round : ∀ g, I g → awp P fx c (Lp fx I (fun g => s.hav lo n (vals g) (Ls g)) μ (μ g) Q) (s.hav lo n (vals g) (Ls g))) :
    awp P fx (.loop c) Q s := awp_loop I _ μ g0 hI h0 round

theorem wrap64 (x : Int) (h1 : -9223372036854775808 ≤ x) (h2 : x ≤ 9223372036854775807) : IntKind.i64.wrap x = x := by
  simp [IntKind.wrap, IntKind.signed, IntKind.bits]
  omega

theorem take_next {α : Type} {q : α → Prop} {l : List α} {i : Nat} {x : α} (h : l[i]? = some x) (h1 : ∀ p ∈ l.take i, q p) (h2 : q x) : ∀ p ∈ l.take (i + 1), q p := by
  intro p hp
  rw [List.take_add_one, h] at hp
  rcases List.mem_append.1 hp with hp | hp
  · exact h1 p hp
  · simp at hp; subst hp; exact h2
theorem take_all {α : Type} {q : α → Prop} {l : List α} {i : Nat} (h : l.length ≤ i) (h1 : ∀ p ∈ l.take i, q p) : ∀ p ∈ l, q p := by rwa [List.take_of_length_le h] at h1
theorem get_lt {α : Type} {l : List α} {i : Nat} (h : i < l.length) : ∃ x, l[i]? = some x := ⟨l[i], List.getElem?_eq_getElem h⟩

theorem vb {p q : Prop} [Decidable p] [Decidable q] (h : p ↔ q) : AV.val (.bool (decide p)) = AV.val (.bool (decide q)) := by rw [decide_eq_decide.2 h]

theorem fin_val {R : AV → List OB → Prop} {s : AS} {v : Value} (hR : R (.val v) []) : Fin [] 0 R s (.val v) := fin_free rfl hR

theorem br_ndec {p : Prop} [Decidable p] {X Y : AS → Prop} {f : Bool → AS} (h1 : ¬ p → X (f true)) (h2 : p → Y (f false)) : Br (!decide p) X Y f := ⟨fun h => h1 (by simpa using h), fun h => h2 (by simpa using h)⟩
theorem pk_ndec {p : Prop} [Decidable p] {x y : AV} {K : AV → Prop} (h1 : ¬ p → K x) (h2 : p → K y) : Pk (!decide p) x y K := ⟨fun h => h1 (by simpa using h), fun h => h2 (by simpa using h)⟩

/-! ### Regions that draw their order: one operation after the other -/

/-- The result goes into its temporary, then on. -/
def QN (P : Program) (T : TypeId → Ty) (all : List Oper) (n : Nat) (rest : List Oper) (dst : Option Tmp) (s : AS) (K : AS → Prop) (r : AV) : Prop := sxQs P T all n rest (s.put dst r) K
def QGo (P : Program) (T : TypeId → Ty) (all : List Oper) (n : Nat) (rest : List Oper) (dst : Option Tmp) (op : Op) (K : AS → Prop) (s : AS) : Prop := qOp P T op s (QN P T all n rest dst s K)
def QSkip (P : Program) (T : TypeId → Ty) (all : List Oper) (n : Nat) (rest : List Oper) (dst : Option Tmp) (K : AS → Prop) (s : AS) : Prop := sxQs P T all n rest (s.put dst (.val undef)) K

theorem sxQs_zero (all l : List Oper) (s : AS) (K : AS → Prop) : sxQs P T all 0 l s K = K s := by cases l <;> rfl
theorem sxQs_nil (all : List Oper) (n : Nat) (s : AS) (K : AS → Prop) : sxQs P T all n [] s K = K s := by cases n <;> rfl
theorem sxQs_cons (all : List Oper) (n : Nat) (dst : Option Tmp) (op : Op) (ty : TypeId) (pos : String) (after : Array Edge) (rest : List Oper) (s : AS) (K : AS → Prop) :
    sxQs P T all (n + 1) ({ dst := dst, op := op, type := ty, pos := pos, after := after, guard := none } :: rest) s K = qOp P T op s (QN P T all n rest dst s K) := nrf rfl

def QG (P : Program) (T : TypeId → Ty) (all : List Oper) (n : Nat) (dst : Option Tmp) (op : Op) (g : Nat) (want : Bool) (rest : List Oper) (s : AS) (K : AS → Prop) : Prop :=
  match dstAt all g with
  | none => QSkip P T all n rest dst K s
  | some d =>
    match gv s.tm[d]? with
    | .tells b =>
      match want with
      | true => Br b (QGo P T all n rest dst op K) (QSkip P T all n rest dst K) (s.tell d)
      | false => Br b (QSkip P T all n rest dst K) (QGo P T all n rest dst op K) (s.tell d)
    | .no => QSkip P T all n rest dst K s
    | .bad => False

theorem sxQs_guard (all : List Oper) (n : Nat) (dst : Option Tmp) (op : Op) (ty : TypeId) (pos : String) (after : Array Edge) (g : Nat) (want : Bool) (rest : List Oper) (s : AS) (K : AS → Prop) :
    sxQs P T all (n + 1) ({ dst := dst, op := op, type := ty, pos := pos, after := after, guard := some (g, want) } :: rest) s K = QG P T all n dst op g want rest s K := by
  simp only [sxQs, QG, gBool, dstAt_eq]
  cases hd : dstAt all g with
  | none => rfl
  | some d =>
    simp only
    cases hs : s.tm[d]? with
    | none => rfl
    | some x =>
      cases x with
      | val v =>
        cases v with
        | bool b =>
          have ht := AS.tell_eq hs
          cases b <;> cases want <;> (simp [Br, QGo, QSkip, QN, ht, gv] <;> exact Iff.rfl)
        | _ => rfl
      | _ => rfl

/-- Bytes, as abstract elements. -/
def bys (xs : List Int) : List (List AV) := xs.map fun x => [.val (.int .u8 x)]
theorem bysLen (xs : List Int) : (bys xs).length = xs.length := by simp [bys]
theorem bysGet (xs : List Int) (i : Nat) : (bys xs)[i]? = (xs[i]?).map fun x => [.val (.int .u8 x)] := by simp [bys]
def keepL (σ : Nat → Nat) (L : List OB) : List Nat → List OB → Prop
  | [], [] => True
  | r :: ks, o :: os => L[r]? = some (o.ren σ) ∧ keepL σ L ks os
  | _, _ => False

theorem keepL_get {σ : Nat → Nat} {L : List OB} : ∀ {ks : List Nat} {os : List OB}, keepL σ L ks os → os.length = ks.length ∧ ∀ (j r : Nat) o, ks[j]? = some r → os[j]? = some o → L[r]? = some (o.ren σ)
  | [], [], _ => ⟨rfl, by simp⟩
  | r :: ks, o :: os, h => by
    obtain ⟨h1, h2⟩ := keepL_get h.2
    refine ⟨by simp [h1], fun j r' o' hr ho => ?_⟩
    cases j with
    | zero => simp at hr ho; subst hr; subst ho; exact h.1
    | succ j => exact h2 j r' o' (by simpa using hr) (by simpa using ho)
  | [], _ :: _, h => by cases h
  | _ :: _, [], h => by cases h

/-- What a body returns, the own blocks told by a list. -/
theorem fin_ks {nb : Nat} {R : AV → List OB → Prop} {s : AS} {x : AV} (ks : List Nat) (x' : AV) (L' : List OB) (hR : R x' L') (hx : x = x'.ren (nameK ks s.L.length)) (hL : keepL (nameK ks s.L.length) s.L ks L') (hnb : nb ≤ L'.length) (hn : ks.Nodup) (hfx : ∀ r ∈ fx, ks[r]? = some r) : Fin fx nb R s x :=
  fin_keep ks x' L' hR hnb hn (keepL_get hL).1 hx (keepL_get hL).2 hfx

/-- The same where the only own block that stays is the first one. -/
theorem fin_zero {fx : List Nat} {R : AV → List OB → Prop} {s : AS} {x : AV} (x' : AV) (o : OB) (hR : R x' [o]) (hx : x = x'.ren (nameK [0] s.L.length)) (hL : s.L[0]? = some (o.ren (nameK [0] s.L.length))) (hfx : ∀ r ∈ fx, r = 0) {nb : Nat} (hnb : nb ≤ 1) : Fin fx nb R s x :=
  fin_ks [0] x' [o] hR hx ⟨hL, trivial⟩ hnb (by simp) fun r hr => by rw [hfx r hr]; rfl

/-- A call in a region that draws its order. -/
def QC (P : Program) (L : List OB) (f : AV) (args : List AV) (K : AV → Prop) : Prop := ∃ r, QCallL P L f args r ∧ K r
theorem qOp_call (f : Operand) (args : Array Operand) (ts : Array TypeId) (s : AS) (K : AV → Prop) : qOp P T (.call { callee := .value f, args := args, argTypes := ts }) s K = QC P s.L (s.ev f) (args.toList.map s.ev) K := nrf rfl
theorem qc_one {f : FuncId} {args : List AV} {r : AV} (h : ACalls P f args [] [] (fun res L' => res = r ∧ L' = [])) (hfree : freeL args = true) {K : AV → Prop} {L : List OB} (hK : K r) : QC P L (.fn f []) args K := ⟨r, (qcall_one h hfree).l L, hK⟩

/-! ### Bodies by parts: a cut forgets what is not needed any more -/

/-- Behind a statement that ends normally comes the rest. -/
def AThen (P : Program) (fx : List Nat) (y : Code) (Q : Exit → AS → Prop) (e : Exit) (s : AS) : Prop :=
  match e with
  | .normal => awp P fx y Q s
  | .exit i => Q (.exit i) s
  | .goto l => Q (.goto l) s
  | .ret => Q .ret s
  | .panic c => Q (.panic c) s
  | .outgrown => Q .outgrown s

/-- Behind a statement: a state that says less. -/
def CutQ {G : Type} (fx : List Nat) (I : G → Prop) (st : G → AS) (Q : Exit → AS → Prop) (e : Exit) (s : AS) : Prop :=
  match e with
  | .normal => ∃ g, I g ∧ Wk fx s (st g)
  | .exit i => Q (.exit i) s
  | .goto l => Q (.goto l) s
  | .ret => Q .ret s
  | .panic c => Q (.panic c) s
  | .outgrown => Q .outgrown s

theorem AThen_normal (y : Code) (Q : Exit → AS → Prop) (s : AS) : AThen P fx y Q .normal s = awp P fx y Q s := nrf rfl
theorem AThen_ret (y : Code) (Q : Exit → AS → Prop) (s : AS) : AThen P fx y Q .ret s = Q .ret s := nrf rfl
theorem AThen_exit (y : Code) (Q : Exit → AS → Prop) (i : Nat) (s : AS) : AThen P fx y Q (.exit i) s = Q (.exit i) s := nrf rfl
theorem CutQ_normal {G : Type} (I : G → Prop) (st : G → AS) (Q : Exit → AS → Prop) (s : AS) : CutQ fx I st Q .normal s = ∃ g, I g ∧ Wk fx s (st g) := nrf rfl
theorem CutQ_ret {G : Type} (I : G → Prop) (st : G → AS) (Q : Exit → AS → Prop) (s : AS) : CutQ fx I st Q .ret s = Q .ret s := nrf rfl
theorem CutQ_exit {G : Type} (I : G → Prop) (st : G → AS) (Q : Exit → AS → Prop) (i : Nat) (s : AS) : CutQ fx I st Q (.exit i) s = Q (.exit i) s := nrf rfl

end

end Go.Pc

/- The rules of the walk, one theorem a case: none of them is taken for a definitional one. -/
namespace Go.Pc
open Go

theorem n_GOp_1 : type_of% @GOp.eq_1 := by
  intros
  apply nrf
  first | exact GOp.eq_1 .. | (apply GOp.eq_1 <;> assumption)
theorem n_GGo_1 : type_of% @GGo.eq_1 := by
  intros
  apply nrf
  first | exact GGo.eq_1 .. | (apply GGo.eq_1 <;> assumption)
theorem n_GSkip_1 : type_of% @GSkip.eq_1 := by
  intros
  apply nrf
  first | exact GSkip.eq_1 .. | (apply GSkip.eq_1 <;> assumption)
theorem n_AS_tell_1 : type_of% @AS.tell.eq_1 := by
  intros
  apply nrf
  first | exact AS.tell.eq_1 .. | (apply AS.tell.eq_1 <;> assumption)
theorem n_aOp_1 : type_of% @aOp.eq_1 := by
  intros
  apply nrf
  first | exact aOp.eq_1 .. | (apply aOp.eq_1 <;> assumption)
theorem n_qOp_1 : type_of% @qOp.eq_1 := by
  intros
  apply nrf
  first | exact qOp.eq_1 .. | (apply qOp.eq_1 <;> assumption)
theorem n_qOp_2 : type_of% @qOp.eq_2 := by
  intros
  apply nrf
  first | exact qOp.eq_2 .. | (apply qOp.eq_2 <;> assumption)
theorem n_qOp_3 : type_of% @qOp.eq_3 := by
  intros
  apply nrf
  first | exact qOp.eq_3 .. | (apply qOp.eq_3 <;> assumption)
theorem n_qOp_4 : type_of% @qOp.eq_4 := by
  intros
  apply nrf
  first | exact qOp.eq_4 .. | (apply qOp.eq_4 <;> assumption)
theorem n_qOp_5 : type_of% @qOp.eq_5 := by
  intros
  apply nrf
  first | exact qOp.eq_5 .. | (apply qOp.eq_5 <;> assumption)
theorem n_qOp_6 : type_of% @qOp.eq_6 := by
  intros
  apply nrf
  first | exact qOp.eq_6 .. | (apply qOp.eq_6 <;> assumption)
theorem n_qOp_7 : type_of% @qOp.eq_7 := by
  intros
  apply nrf
  first | exact qOp.eq_7 .. | (apply qOp.eq_7 <;> assumption)
theorem n_qOp_8 : type_of% @qOp.eq_8 := by
  intros
  apply nrf
  first | exact qOp.eq_8 .. | (apply qOp.eq_8 <;> assumption)
theorem n_qOp_9 : type_of% @qOp.eq_9 := by
  intros
  apply nrf
  first | exact qOp.eq_9 .. | (apply qOp.eq_9 <;> assumption)
theorem n_qOp_10 : type_of% @qOp.eq_10 := by
  intros
  apply nrf
  first | exact qOp.eq_10 .. | (apply qOp.eq_10 <;> assumption)
theorem n_qOp_11 : type_of% @qOp.eq_11 := by
  intros
  apply nrf
  first | exact qOp.eq_11 .. | (apply qOp.eq_11 <;> assumption)
theorem n_qOp_12 : type_of% @qOp.eq_12 := by
  intros
  apply nrf
  first | exact qOp.eq_12 .. | (apply qOp.eq_12 <;> assumption)
theorem n_qOp_13 : type_of% @qOp.eq_13 := by
  intros
  apply nrf
  first | exact qOp.eq_13 .. | (apply qOp.eq_13 <;> assumption)
theorem n_qOp_14 : type_of% @qOp.eq_14 := by
  intros
  apply nrf
  first | exact qOp.eq_14 .. | (apply qOp.eq_14 <;> assumption)
theorem n_qOp_15 : type_of% @qOp.eq_15 := by
  intros
  apply nrf
  first | exact qOp.eq_15 .. | (apply qOp.eq_15 <;> assumption)
theorem n_qOp_16 : type_of% @qOp.eq_16 := by
  intros
  apply nrf
  first | exact qOp.eq_16 .. | (apply qOp.eq_16 <;> assumption)
theorem n_qOp_17 : type_of% @qOp.eq_17 := by
  intros
  apply nrf
  first | exact qOp.eq_17 .. | (apply qOp.eq_17 <;> assumption)
theorem n_qOp_18 : type_of% @qOp.eq_18 := by
  intros
  apply nrf
  first | exact qOp.eq_18 .. | (apply qOp.eq_18 <;> assumption)
theorem n_qOp_19 : type_of% @qOp.eq_19 := by
  intros
  apply nrf
  first | exact qOp.eq_19 .. | (apply qOp.eq_19 <;> assumption)
theorem n_Nxt_1 : type_of% @Nxt.eq_1 := by
  intros
  apply nrf
  first | exact Nxt.eq_1 .. | (apply Nxt.eq_1 <;> assumption)
theorem n_PutK_1 : type_of% @PutK.eq_1 := by
  intros
  apply nrf
  first | exact PutK.eq_1 .. | (apply PutK.eq_1 <;> assumption)
theorem n_PutQ_1 : type_of% @PutQ.eq_1 := by
  intros
  apply nrf
  first | exact PutQ.eq_1 .. | (apply PutQ.eq_1 <;> assumption)
theorem n_Then_1 : type_of% @Then.eq_1 := by
  intros
  apply nrf
  first | exact Then.eq_1 .. | (apply Then.eq_1 <;> assumption)
theorem n_Then_2 : type_of% @Then.eq_2 := by
  intros
  apply nrf
  first | exact Then.eq_2 .. | (apply Then.eq_2 <;> assumption)
theorem n_Then_3 : type_of% @Then.eq_3 := by
  intros
  apply nrf
  first | exact Then.eq_3 .. | (apply Then.eq_3 <;> assumption)
theorem n_Then_4 : type_of% @Then.eq_4 := by
  intros
  apply nrf
  first | exact Then.eq_4 .. | (apply Then.eq_4 <;> assumption)
theorem n_Then_5 : type_of% @Then.eq_5 := by
  intros
  apply nrf
  first | exact Then.eq_5 .. | (apply Then.eq_5 <;> assumption)
theorem n_Then_6 : type_of% @Then.eq_6 := by
  intros
  apply nrf
  first | exact Then.eq_6 .. | (apply Then.eq_6 <;> assumption)
theorem n_InB_1 : type_of% @InB.eq_1 := by
  intros
  apply nrf
  first | exact InB.eq_1 .. | (apply InB.eq_1 <;> assumption)
theorem n_InB_2 : type_of% @InB.eq_2 := by
  intros
  apply nrf
  first | exact InB.eq_2 .. | (apply InB.eq_2 <;> assumption)
theorem n_InB_3 : type_of% @InB.eq_3 := by
  intros
  apply nrf
  first | exact InB.eq_3 .. | (apply InB.eq_3 <;> assumption)
theorem n_InB_4 : type_of% @InB.eq_4 := by
  intros
  apply nrf
  first | exact InB.eq_4 .. | (apply InB.eq_4 <;> assumption)
theorem n_InB_5 : type_of% @InB.eq_5 := by
  intros
  apply nrf
  first | exact InB.eq_5 .. | (apply InB.eq_5 <;> assumption)
theorem n_InB_6 : type_of% @InB.eq_6 := by
  intros
  apply nrf
  first | exact InB.eq_6 .. | (apply InB.eq_6 <;> assumption)
theorem n_AS_ev_1 : type_of% @AS.ev.eq_1 := by
  intros
  apply nrf
  first | exact AS.ev.eq_1 .. | (apply AS.ev.eq_1 <;> assumption)
theorem n_AS_ev_2 : type_of% @AS.ev.eq_2 := by
  intros
  apply nrf
  first | exact AS.ev.eq_2 .. | (apply AS.ev.eq_2 <;> assumption)
theorem n_AS_ev_3 : type_of% @AS.ev.eq_3 := by
  intros
  apply nrf
  first | exact AS.ev.eq_3 .. | (apply AS.ev.eq_3 <;> assumption)
theorem n_AS_ev_4 : type_of% @AS.ev.eq_4 := by
  intros
  apply nrf
  first | exact AS.ev.eq_4 .. | (apply AS.ev.eq_4 <;> assumption)
theorem n_AS_put_1 : type_of% @AS.put.eq_1 := by
  intros
  apply nrf
  first | exact AS.put.eq_1 .. | (apply AS.put.eq_1 <;> assumption)
theorem n_AS_put_2 : type_of% @AS.put.eq_2 := by
  intros
  apply nrf
  first | exact AS.put.eq_2 .. | (apply AS.put.eq_2 <;> assumption)
theorem n_AS_push_1 : type_of% @AS.push.eq_1 := by
  intros
  apply nrf
  first | exact AS.push.eq_1 .. | (apply AS.push.eq_1 <;> assumption)
theorem n_rdC_1 : type_of% @rdC.eq_1 := by
  intros
  apply nrf
  first | exact rdC.eq_1 .. | (apply rdC.eq_1 <;> assumption)
theorem n_qLen_1 : type_of% @qLen.eq_1 := by
  intros
  apply nrf
  first | exact qLen.eq_1 .. | (apply qLen.eq_1 <;> assumption)
theorem n_qLen_2 : type_of% @qLen.eq_2 := by
  intros
  apply nrf
  first | exact qLen.eq_2 .. | (apply qLen.eq_2 <;> assumption)
theorem n_qLen_3 : type_of% @qLen.eq_3 := by
  intros
  apply nrf
  first | exact qLen.eq_3 .. | (apply qLen.eq_3 <;> assumption)
theorem n_qLen_4 : type_of% @qLen.eq_4 := by
  intros
  apply nrf
  first | exact qLen.eq_4 .. | (apply qLen.eq_4 <;> assumption)
theorem n_qLen_5 : type_of% @qLen.eq_5 := by
  intros
  apply nrf
  first | exact qLen.eq_5 .. | (apply qLen.eq_5 <;> assumption)
theorem n_bnd_1 : type_of% @bnd.eq_1 := by
  intros
  apply nrf
  first | exact bnd.eq_1 .. | (apply bnd.eq_1 <;> assumption)
theorem n_bnd_2 : type_of% @bnd.eq_2 := by
  intros
  apply nrf
  first | exact bnd.eq_2 .. | (apply bnd.eq_2 <;> assumption)
theorem n_bnd_3 : type_of% @bnd.eq_3 := by
  intros
  apply nrf
  first | exact bnd.eq_3 .. | (apply bnd.eq_3 <;> assumption)
theorem n_eqA_1 : type_of% @eqA.eq_1 := by
  intros
  apply nrf
  first | exact eqA.eq_1 .. | (apply eqA.eq_1 <;> assumption)
theorem n_eqA_2 : type_of% @eqA.eq_2 := by
  intros
  apply nrf
  first | exact eqA.eq_2 .. | (apply eqA.eq_2 <;> assumption)
theorem n_eqA_3 : type_of% @eqA.eq_3 := by
  intros
  apply nrf
  first | exact eqA.eq_3 .. | (apply eqA.eq_3 <;> assumption)
theorem n_eqA_4 : type_of% @eqA.eq_4 := by
  intros
  apply nrf
  first | exact eqA.eq_4 .. | (apply eqA.eq_4 <;> assumption)
theorem n_qUn_1 : type_of% @qUn.eq_1 := by
  intros
  apply nrf
  first | exact qUn.eq_1 .. | (apply qUn.eq_1 <;> assumption)
theorem n_qUn_2 : type_of% @qUn.eq_2 := by
  intros
  apply nrf
  first | exact qUn.eq_2 .. | (apply qUn.eq_2 <;> assumption)
theorem n_qUn_3 : type_of% @qUn.eq_3 := by
  intros
  apply nrf
  first | exact qUn.eq_3 .. | (apply qUn.eq_3 <;> assumption)
theorem n_qMax_1 : type_of% @qMax.eq_1 := by
  intros
  apply nrf
  first | exact qMax.eq_1 .. | (apply qMax.eq_1 <;> assumption)
theorem n_qMax_2 : type_of% @qMax.eq_2 := by
  intros
  apply nrf
  first | exact qMax.eq_2 .. | (apply qMax.eq_2 <;> assumption)
theorem n_qMin_1 : type_of% @qMin.eq_1 := by
  intros
  apply nrf
  first | exact qMin.eq_1 .. | (apply qMin.eq_1 <;> assumption)
theorem n_qMin_2 : type_of% @qMin.eq_2 := by
  intros
  apply nrf
  first | exact qMin.eq_2 .. | (apply qMin.eq_2 <;> assumption)
theorem n_fillA_1 : type_of% @fillA.eq_1 := by
  intros
  apply nrf
  first | exact fillA.eq_1 .. | (apply fillA.eq_1 <;> assumption)
theorem n_fillA_2 : type_of% @fillA.eq_2 := by
  intros
  apply nrf
  first | exact fillA.eq_2 .. | (apply fillA.eq_2 <;> assumption)
theorem n_putAt_1 : type_of% @putAt.eq_1 := by
  intros
  apply nrf
  first | exact putAt.eq_1 .. | (apply putAt.eq_1 <;> assumption)
theorem n_litRow_1 : type_of% @litRow.eq_1 := by
  intros
  apply nrf
  first | exact litRow.eq_1 .. | (apply litRow.eq_1 <;> assumption)
theorem n_litRow_2 : type_of% @litRow.eq_2 := by
  intros
  apply nrf
  first | exact litRow.eq_2 .. | (apply litRow.eq_2 <;> assumption)
theorem n_inOrd_1 : type_of% @inOrd.eq_1 := by
  intros
  apply nrf
  first | exact inOrd.eq_1 .. | (apply inOrd.eq_1 <;> assumption)
theorem n_inOrd_2 : type_of% @inOrd.eq_2 := by
  intros
  apply nrf
  first | exact inOrd.eq_2 .. | (apply inOrd.eq_2 <;> assumption)
theorem n_elemsOf_1 : type_of% @elemsOf.eq_1 := by
  intros
  apply nrf
  first | exact elemsOf.eq_1 .. | (apply elemsOf.eq_1 <;> assumption)
theorem n_elemsOf_2 : type_of% @elemsOf.eq_2 := by
  intros
  apply nrf
  first | exact elemsOf.eq_2 .. | (apply elemsOf.eq_2 <;> assumption)
theorem n_elemsOf_3 : type_of% @elemsOf.eq_3 := by
  intros
  apply nrf
  first | exact elemsOf.eq_3 .. | (apply elemsOf.eq_3 <;> assumption)
theorem n_elemsOf_4 : type_of% @elemsOf.eq_4 := by
  intros
  apply nrf
  first | exact elemsOf.eq_4 .. | (apply elemsOf.eq_4 <;> assumption)
theorem n_Ret_1 : type_of% @Ret.eq_1 := by
  intros
  apply nrf
  first | exact Ret.eq_1 .. | (apply Ret.eq_1 <;> assumption)
theorem n_Ret_2 : type_of% @Ret.eq_2 := by
  intros
  apply nrf
  first | exact Ret.eq_2 .. | (apply Ret.eq_2 <;> assumption)
theorem n_Ret_3 : type_of% @Ret.eq_3 := by
  intros
  apply nrf
  first | exact Ret.eq_3 .. | (apply Ret.eq_3 <;> assumption)
theorem n_Ret_4 : type_of% @Ret.eq_4 := by
  intros
  apply nrf
  first | exact Ret.eq_4 .. | (apply Ret.eq_4 <;> assumption)
theorem n_Ret_5 : type_of% @Ret.eq_5 := by
  intros
  apply nrf
  first | exact Ret.eq_5 .. | (apply Ret.eq_5 <;> assumption)
theorem n_Ret_6 : type_of% @Ret.eq_6 := by
  intros
  apply nrf
  first | exact Ret.eq_6 .. | (apply Ret.eq_6 <;> assumption)
theorem n_rvs_1 : type_of% @rvs.eq_1 := by
  intros
  apply nrf
  first | exact rvs.eq_1 .. | (apply rvs.eq_1 <;> assumption)
theorem n_rvs_2 : type_of% @rvs.eq_2 := by
  intros
  apply nrf
  first | exact rvs.eq_2 .. | (apply rvs.eq_2 <;> assumption)
theorem n_rvs_3 : type_of% @rvs.eq_3 := by
  intros
  apply nrf
  first | exact rvs.eq_3 .. | (apply rvs.eq_3 <;> assumption)
theorem n_Lp_1 : type_of% @Lp.eq_1 := by
  intros
  apply nrf
  first | exact Lp.eq_1 .. | (apply Lp.eq_1 <;> assumption)
theorem n_Lp_2 : type_of% @Lp.eq_2 := by
  intros
  apply nrf
  first | exact Lp.eq_2 .. | (apply Lp.eq_2 <;> assumption)
theorem n_Lp_3 : type_of% @Lp.eq_3 := by
  intros
  apply nrf
  first | exact Lp.eq_3 .. | (apply Lp.eq_3 <;> assumption)
theorem n_Lp_4 : type_of% @Lp.eq_4 := by
  intros
  apply nrf
  first | exact Lp.eq_4 .. | (apply Lp.eq_4 <;> assumption)
theorem n_Lp_5 : type_of% @Lp.eq_5 := by
  intros
  apply nrf
  first | exact Lp.eq_5 .. | (apply Lp.eq_5 <;> assumption)
theorem n_Lp_6 : type_of% @Lp.eq_6 := by
  intros
  apply nrf
  first | exact Lp.eq_6 .. | (apply Lp.eq_6 <;> assumption)
theorem n_AS_hav_1 : type_of% @AS.hav.eq_1 := by
  intros
  apply nrf
  first | exact AS.hav.eq_1 .. | (apply AS.hav.eq_1 <;> assumption)
theorem n_setVs_1 : type_of% @setVs.eq_1 := by
  intros
  apply nrf
  first | exact setVs.eq_1 .. | (apply setVs.eq_1 <;> assumption)
theorem n_setVs_2 : type_of% @setVs.eq_2 := by
  intros
  apply nrf
  first | exact setVs.eq_2 .. | (apply setVs.eq_2 <;> assumption)
theorem n_anyAt_1 : type_of% @anyAt.eq_1 := by
  intros
  apply nrf
  first | exact anyAt.eq_1 .. | (apply anyAt.eq_1 <;> assumption)
theorem n_anyAt_2 : type_of% @anyAt.eq_2 := by
  intros
  apply nrf
  first | exact anyAt.eq_2 .. | (apply anyAt.eq_2 <;> assumption)
theorem n_QN_1 : type_of% @QN.eq_1 := by
  intros
  apply nrf
  first | exact QN.eq_1 .. | (apply QN.eq_1 <;> assumption)
theorem n_QGo_1 : type_of% @QGo.eq_1 := by
  intros
  apply nrf
  first | exact QGo.eq_1 .. | (apply QGo.eq_1 <;> assumption)
theorem n_QSkip_1 : type_of% @QSkip.eq_1 := by
  intros
  apply nrf
  first | exact QSkip.eq_1 .. | (apply QSkip.eq_1 <;> assumption)
theorem n_QG_1 : type_of% @QG.eq_1 := by
  intros
  apply nrf
  first | exact QG.eq_1 .. | (apply QG.eq_1 <;> assumption)
theorem n_CAt_1 : type_of% @CAt.eq_1 := by
  intros
  apply nrf
  first | exact CAt.eq_1 .. | (apply CAt.eq_1 <;> assumption)
theorem n_VAt_1 : type_of% @VAt.eq_1 := by
  intros
  apply nrf
  first | exact VAt.eq_1 .. | (apply VAt.eq_1 <;> assumption)
theorem n_LoadGo_1 : type_of% @LoadGo.eq_1 := by
  intros
  apply nrf
  first | exact LoadGo.eq_1 .. | (apply LoadGo.eq_1 <;> assumption)
theorem n_IxC_1 : type_of% @IxC.eq_1 := by
  intros
  apply nrf
  first | exact IxC.eq_1 .. | (apply IxC.eq_1 <;> assumption)
theorem n_IxGo_1 : type_of% @IxGo.eq_1 := by
  intros
  apply nrf
  first | exact IxGo.eq_1 .. | (apply IxGo.eq_1 <;> assumption)
theorem n_PartR_1 : type_of% @PartR.eq_1 := by
  intros
  apply nrf
  first | exact PartR.eq_1 .. | (apply PartR.eq_1 <;> assumption)
theorem n_PartGo_1 : type_of% @PartGo.eq_1 := by
  intros
  apply nrf
  first | exact PartGo.eq_1 .. | (apply PartGo.eq_1 <;> assumption)
theorem n_IndR_1 : type_of% @IndR.eq_1 := by
  intros
  apply nrf
  first | exact IndR.eq_1 .. | (apply IndR.eq_1 <;> assumption)
theorem n_IndA_1 : type_of% @IndA.eq_1 := by
  intros
  apply nrf
  first | exact IndA.eq_1 .. | (apply IndA.eq_1 <;> assumption)
theorem n_IndS_1 : type_of% @IndS.eq_1 := by
  intros
  apply nrf
  first | exact IndS.eq_1 .. | (apply IndS.eq_1 <;> assumption)
theorem n_IndT_1 : type_of% @IndT.eq_1 := by
  intros
  apply nrf
  first | exact IndT.eq_1 .. | (apply IndT.eq_1 <;> assumption)
theorem n_BuK_1 : type_of% @BuK.eq_1 := by
  intros
  apply nrf
  first | exact BuK.eq_1 .. | (apply BuK.eq_1 <;> assumption)
theorem n_BuS_1 : type_of% @BuS.eq_1 := by
  intros
  apply nrf
  first | exact BuS.eq_1 .. | (apply BuS.eq_1 <;> assumption)
theorem n_BuA_1 : type_of% @BuA.eq_1 := by
  intros
  apply nrf
  first | exact BuA.eq_1 .. | (apply BuA.eq_1 <;> assumption)
theorem n_ConvI_1 : type_of% @ConvI.eq_1 := by
  intros
  apply nrf
  first | exact ConvI.eq_1 .. | (apply ConvI.eq_1 <;> assumption)
theorem n_SlH_1 : type_of% @SlH.eq_1 := by
  intros
  apply nrf
  first | exact SlH.eq_1 .. | (apply SlH.eq_1 <;> assumption)
theorem n_SlL_1 : type_of% @SlL.eq_1 := by
  intros
  apply nrf
  first | exact SlL.eq_1 .. | (apply SlL.eq_1 <;> assumption)
theorem n_SlGo_1 : type_of% @SlGo.eq_1 := by
  intros
  apply nrf
  first | exact SlGo.eq_1 .. | (apply SlGo.eq_1 <;> assumption)
theorem n_SoH_1 : type_of% @SoH.eq_1 := by
  intros
  apply nrf
  first | exact SoH.eq_1 .. | (apply SoH.eq_1 <;> assumption)
theorem n_SoL_1 : type_of% @SoL.eq_1 := by
  intros
  apply nrf
  first | exact SoL.eq_1 .. | (apply SoL.eq_1 <;> assumption)
theorem n_SoGo_1 : type_of% @SoGo.eq_1 := by
  intros
  apply nrf
  first | exact SoGo.eq_1 .. | (apply SoGo.eq_1 <;> assumption)
theorem n_EqK_1 : type_of% @EqK.eq_1 := by
  intros
  apply nrf
  first | exact EqK.eq_1 .. | (apply EqK.eq_1 <;> assumption)
theorem n_NeK_1 : type_of% @NeK.eq_1 := by
  intros
  apply nrf
  first | exact NeK.eq_1 .. | (apply NeK.eq_1 <;> assumption)
theorem n_AggE_1 : type_of% @AggE.eq_1 := by
  intros
  apply nrf
  first | exact AggE.eq_1 .. | (apply AggE.eq_1 <;> assumption)
theorem n_AggN_1 : type_of% @AggN.eq_1 := by
  intros
  apply nrf
  first | exact AggN.eq_1 .. | (apply AggN.eq_1 <;> assumption)
theorem n_BoxGo_1 : type_of% @BoxGo.eq_1 := by
  intros
  apply nrf
  first | exact BoxGo.eq_1 .. | (apply BoxGo.eq_1 <;> assumption)
theorem n_StQ_1 : type_of% @StQ.eq_1 := by
  intros
  apply nrf
  first | exact StQ.eq_1 .. | (apply StQ.eq_1 <;> assumption)
theorem n_StP_1 : type_of% @StP.eq_1 := by
  intros
  apply nrf
  first | exact StP.eq_1 .. | (apply StP.eq_1 <;> assumption)
theorem n_StX_1 : type_of% @StX.eq_1 := by
  intros
  apply nrf
  first | exact StX.eq_1 .. | (apply StX.eq_1 <;> assumption)
theorem n_StW_1 : type_of% @StW.eq_1 := by
  intros
  apply nrf
  first | exact StW.eq_1 .. | (apply StW.eq_1 <;> assumption)
theorem n_StV_1 : type_of% @StV.eq_1 := by
  intros
  apply nrf
  first | exact StV.eq_1 .. | (apply StV.eq_1 <;> assumption)
theorem n_StGo_1 : type_of% @StGo.eq_1 := by
  intros
  apply nrf
  first | exact StGo.eq_1 .. | (apply StGo.eq_1 <;> assumption)
theorem n_LitY_1 : type_of% @LitY.eq_1 := by
  intros
  apply nrf
  first | exact LitY.eq_1 .. | (apply LitY.eq_1 <;> assumption)
theorem n_LitX_1 : type_of% @LitX.eq_1 := by
  intros
  apply nrf
  first | exact LitX.eq_1 .. | (apply LitX.eq_1 <;> assumption)
theorem n_LitGo_1 : type_of% @LitGo.eq_1 := by
  intros
  apply nrf
  first | exact LitGo.eq_1 .. | (apply LitGo.eq_1 <;> assumption)
theorem n_ApPW_1 : type_of% @ApPW.eq_1 := by
  intros
  apply nrf
  first | exact ApPW.eq_1 .. | (apply ApPW.eq_1 <;> assumption)
theorem n_ApPV_1 : type_of% @ApPV.eq_1 := by
  intros
  apply nrf
  first | exact ApPV.eq_1 .. | (apply ApPV.eq_1 <;> assumption)
theorem n_ApPN_1 : type_of% @ApPN.eq_1 := by
  intros
  apply nrf
  first | exact ApPN.eq_1 .. | (apply ApPN.eq_1 <;> assumption)
theorem n_ApPGo_1 : type_of% @ApPGo.eq_1 := by
  intros
  apply nrf
  first | exact ApPGo.eq_1 .. | (apply ApPGo.eq_1 <;> assumption)
theorem n_ApW_1 : type_of% @ApW.eq_1 := by
  intros
  apply nrf
  first | exact ApW.eq_1 .. | (apply ApW.eq_1 <;> assumption)
theorem n_ApV_1 : type_of% @ApV.eq_1 := by
  intros
  apply nrf
  first | exact ApV.eq_1 .. | (apply ApV.eq_1 <;> assumption)
theorem n_ApN_1 : type_of% @ApN.eq_1 := by
  intros
  apply nrf
  first | exact ApN.eq_1 .. | (apply ApN.eq_1 <;> assumption)
theorem n_ApGo_1 : type_of% @ApGo.eq_1 := by
  intros
  apply nrf
  first | exact ApGo.eq_1 .. | (apply ApGo.eq_1 <;> assumption)
theorem n_AnN_1 : type_of% @AnN.eq_1 := by
  intros
  apply nrf
  first | exact AnN.eq_1 .. | (apply AnN.eq_1 <;> assumption)
theorem n_AnGo_1 : type_of% @AnGo.eq_1 := by
  intros
  apply nrf
  first | exact AnGo.eq_1 .. | (apply AnGo.eq_1 <;> assumption)

/-! ### by constructor -/
theorem ofV_int (k : IntKind) (n : Int) : AV.ofV (.int k n) = .val (.int k n) := nrf rfl
theorem oneCell_int (k : IntKind) (n : Int) : Value.oneCell' (.int k n) = true := nrf rfl
theorem ofV_bool (b : Bool) : AV.ofV (.bool b) = .val (.bool b) := nrf rfl
theorem oneCell_bool (b : Bool) : Value.oneCell' (.bool b) = true := nrf rfl
theorem ofV_str (b : ByteArray) : AV.ofV (.string b) = .val (.string b) := nrf rfl
theorem oneCell_str (b : ByteArray) : Value.oneCell' (.string b) = true := nrf rfl
theorem ofV_slice (a : Option Addr) (n c : Nat) : AV.ofV (.slice a n c) = .val (.slice a n c) := nrf rfl
theorem oneCell_slice (a : Option Addr) (n c : Nat) : Value.oneCell' (.slice a n c) = true := nrf rfl
theorem ofV_ptr (a : Option Addr) : AV.ofV (.pointer a) = .val (.pointer a) := nrf rfl
theorem oneCell_ptr (a : Option Addr) : Value.oneCell' (.pointer a) = true := nrf rfl
theorem kok_flat  : Kd.ok .flat = true := nrf rfl
theorem kag_flat  : Kd.isAgg .flat = false := nrf rfl
theorem kok_intk (k : IntKind) : Kd.ok (.intk k) = true := nrf rfl
theorem kag_intk (k : IntKind) : Kd.isAgg (.intk k) = false := nrf rfl
theorem kok_bool  : Kd.ok .bool = true := nrf rfl
theorem kag_bool  : Kd.isAgg .bool = false := nrf rfl
theorem kok_str  : Kd.ok .str = true := nrf rfl
theorem kag_str  : Kd.isAgg .str = false := nrf rfl
theorem kok_struct (fs : List (Nat × TypeId)) : Kd.ok (.struct fs) = true := nrf rfl
theorem kag_struct (fs : List (Nat × TypeId)) : Kd.isAgg (.struct fs) = true := nrf rfl
theorem kok_array (n : Nat) (e : TypeId) : Kd.ok (.array n e) = true := nrf rfl
theorem kag_array (n : Nat) (e : TypeId) : Kd.isAgg (.array n e) = true := nrf rfl
theorem kok_slice (e : TypeId) : Kd.ok (.slice e) = true := nrf rfl
theorem kag_slice (e : TypeId) : Kd.isAgg (.slice e) = false := nrf rfl
theorem avp_any  : AV.pure .any = true := nrf rfl
theorem avo_any  : AV.one .any = false := nrf rfl
theorem cel_any  : cellsOf .any = none := nrf rfl
theorem avp_agg (l : List AV) : AV.pure (.agg l) = false := nrf rfl
theorem avo_agg (l : List AV) : AV.one (.agg l) = false := nrf rfl
theorem cel_agg (l : List AV) : cellsOf (.agg l) = some l := nrf rfl
theorem avp_tup (l : List AV) : AV.pure (.tup l) = false := nrf rfl
theorem avo_tup (l : List AV) : AV.one (.tup l) = false := nrf rfl
theorem cel_tup (l : List AV) : cellsOf (.tup l) = none := nrf rfl
theorem avp_sl (e : List (List AV)) : AV.pure (.sl e) = true := nrf rfl
theorem avo_sl (e : List (List AV)) : AV.one (.sl e) = true := nrf rfl
theorem cel_sl (e : List (List AV)) : cellsOf (.sl e) = some [.sl e] := nrf rfl
theorem avp_ip (l : List AV) : AV.pure (.ip l) = false := nrf rfl
theorem avo_ip (l : List AV) : AV.one (.ip l) = true := nrf rfl
theorem cel_ip (l : List AV) : cellsOf (.ip l) = some [.ip l] := nrf rfl
theorem avp_ptr (r o : Nat) : AV.pure (.ptr r o) = false := nrf rfl
theorem avo_ptr (r o : Nat) : AV.one (.ptr r o) = true := nrf rfl
theorem cel_ptr (r o : Nat) : cellsOf (.ptr r o) = some [.ptr r o] := nrf rfl
theorem avp_vp (r k i o : Nat) : AV.pure (.vp r k i o) = false := nrf rfl
theorem avo_vp (r k i o : Nat) : AV.one (.vp r k i o) = true := nrf rfl
theorem cel_vp (r k i o : Nat) : cellsOf (.vp r k i o) = some [.vp r k i o] := nrf rfl
theorem avp_os (r k i o : Nat) : AV.pure (.os r k i o) = false := nrf rfl
theorem avo_os (r k i o : Nat) : AV.one (.os r k i o) = true := nrf rfl
theorem cel_os (r k i o : Nat) : cellsOf (.os r k i o) = some [.os r k i o] := nrf rfl
theorem avp_fn (f : FuncId) (l : List AV) : AV.pure (.fn f l) = false := nrf rfl
theorem avo_fn (f : FuncId) (l : List AV) : AV.one (.fn f l) = true := nrf rfl
theorem cel_fn (f : FuncId) (l : List AV) : cellsOf (.fn f l) = some [.fn f l] := nrf rfl
theorem avp_val (v : Value) : AV.pure (.val v) = true := nrf rfl
theorem avo_val (v : Value) : AV.one (.val v) = v.oneCell' := nrf rfl
theorem cel_val (v : Value) : cellsOf (.val v) = if v.oneCell' then some [.val v] else none := nrf rfl
theorem res_one (x : AV) : resOf [x] = x := nrf rfl
theorem res_two (x y : AV) (l : List AV) : resOf (x :: y :: l) = .tup (x :: y :: l) := nrf rfl
theorem els_nil (s : AS) : elemsOf s (.val (.slice none 0 0)) = some [] := nrf rfl

end Go.Pc

/- The abstract logic, thirteenth part: calls that are handed several own blocks; nil slices; results frozen; states weakened before a call. -/
namespace Go.Pc
open Go

section
variable {P : Program} {T : TypeId → Ty} {fx bl : List Nat}

/-! ### Regions all of whose operations are quiet -/

def sxQA (P : Program) (T : TypeId → Ty) (all l : List Oper) (s : AS) (K : AS → Prop) : Prop := sxQs P T all l.length l s K
theorem sxQs_len (all l : List Oper) (s : AS) (K : AS → Prop) : sxQs P T all l.length l s K = sxQA P T all l s K := nrf rfl
theorem sxQA_nil (all : List Oper) (s : AS) (K : AS → Prop) : sxQA P T all [] s K = K s := nrf rfl
theorem sxQA_cons (all : List Oper) (dst : Option Tmp) (op : Op) (ty : TypeId) (pos : String) (after : Array Edge) (rest : List Oper) (s : AS) (K : AS → Prop) :
    sxQA P T all ({ dst := dst, op := op, type := ty, pos := pos, after := after, guard := none } :: rest) s K = qOp P T op s (QN P T all rest.length rest dst s K) := nrf rfl
theorem sxQA_guard (all : List Oper) (dst : Option Tmp) (op : Op) (ty : TypeId) (pos : String) (after : Array Edge) (g : Nat) (want : Bool) (rest : List Oper) (s : AS) (K : AS → Prop) :
    sxQA P T all ({ dst := dst, op := op, type := ty, pos := pos, after := after, guard := some (g, want) } :: rest) s K = QG P T all rest.length dst op g want rest s K := sxQs_guard all rest.length dst op ty pos after g want rest s K

/-- The kinds of operations that may be quiet. -/
def quietB (ops : List Oper) : Bool := ops.all fun o => match o.op with
  | .store .. | .alloc .. | .buildSlice .. | .makeSlice .. | .box .. => false
  | .call { callee := .builtin .append, .. } => false
  | .call { callee := .builtin .copy, .. } => false
  | _ => true

theorem awp_drawA (hT : TTOk P T) (hm : P.follows .mixedOrders = true) {id : Nat} {ops : List Oper} {Q : Exit → AS → Prop} {s : AS} (_ : quietB ops = true) (hB : headB ops.toArray ops.length = true)
    (hseq : Region.seqB .any ops.toArray (ops.length - ops.length) ops.length ((List.range ops.length).map (fun k => decide (k < ops.length))).toArray = true)
    (h : sxQA P T ops ops s (Q .normal)) : awp P fx (.region id ops.toArray true) Q s :=
  awp_draw (bl := []) hT hm ops.length (Nat.le_refl _) hB (.inl rfl) hseq (by rw [List.drop_length]; exact h)

theorem vT {p : Prop} [Decidable p] (h : p) : AV.val (.bool true) = AV.val (.bool (decide p)) := by rw [decide_eq_true h]
theorem vF {p : Prop} [Decidable p] (h : ¬ p) : AV.val (.bool false) = AV.val (.bool (decide p)) := by rw [decide_eq_false h]

/-- A contract whose result is told otherwise. -/
theorem ACalls.fin {f : FuncId} {args : List AV} {L0 : List OB} {R R' : AV → List OB → Prop} (h : ACalls P f args L0 fx R) (hh : ∀ r L, R r L → L0.length ≤ L.length → Fin fx L0.length R' ⟨[], L⟩ r) : ACalls P f args L0 fx R' :=
  ⟨h.1, fun ρ w vs h1 h2 h3 => (h.2 ρ w vs h1 h2 h3).mono fun _ _ ⟨v, res, L', ρ', e, hr, hl, hv, hhr, hst⟩ => by
    obtain ⟨x', L2, ⟨g1, g2⟩, ρ2, k1, k2, k3⟩ := hh res L' hr hl ρ' { tmps := #[], defers := [] } _ v ⟨rfl, rfl, fun i v x h => by simp at h, hhr⟩ hv
    exact ⟨v, x', L2, ρ2, e, g1, g2, k1, k2, hst.trans k3⟩⟩

/-- Before a call the state may be weakened, with the arguments. -/
theorem acall_wk {f : FuncId} {args args' : List AV} {s t : AS} {K : AV → AS → Prop} (hl : args.length = args'.length) (hw : Wk fx { s with tm := s.tm ++ args } { t with tm := t.tm ++ args' }) (h : ACall P fx (.fn f []) args' t K) : ACall P fx (.fn f []) args s K := by
  intro ρ a w vf vs hr hvf hvl hv
  have hr' : Rel ρ { s with tm := s.tm ++ args } { a with tmps := a.tmps ++ vs } w := by
    refine ⟨hr.dfr, by simp [hr.size, hvl], fun i u x h1 h2 => ?_, hr.hr⟩
    simp only at h1 h2
    by_cases hi : i < s.tm.length
    · rw [List.getElem?_append_left hi] at h2
      rw [Array.getElem?_append_left (by rw [hr.size]; exact hi)] at h1
      exact hr.tm i u x h1 h2
    · rw [List.getElem?_append_right (by omega)] at h2
      rw [Array.getElem?_append_right (by rw [hr.size]; omega), hr.size] at h1
      exact hv _ u x h1 h2
  obtain ⟨ρ1, h1, g1⟩ := hw ρ _ w hr'
  have hts : a.tmps.size = t.tm.length := by
    have := h1.size
    simp only [Array.size_append, List.length_append] at this
    omega
  have hf : VR w ρ1 vf (.fn f []) := by
    cases hvf with
    | pr hp => cases hp
    | fn f cv _ hs hc => exact .fn _ _ _ hs (fun i v x h3 h4 => by simp at h4)
  refine (h ρ1 a w vf vs ⟨h1.dfr, hts, fun i u x h3 h4 => ?_, h1.hr⟩ hf (by omega) fun i u x h3 h4 => ?_).mono fun u w' ⟨r, s', ρ', k1, k2, k3, k4⟩ => ⟨r, s', ρ', k1, k2, k3, g1.trans k4⟩
  · have hi : i < t.tm.length := (List.getElem?_eq_some_iff.1 h4).1
    exact h1.tm i u x (by show (a.tmps ++ vs)[i]? = _; rw [Array.getElem?_append_left (by omega)]; exact h3) (by show (t.tm ++ args')[i]? = _; rw [List.getElem?_append_left hi]; exact h4)
  · refine h1.tm (t.tm.length + i) u x ?_ ?_
    · show (a.tmps ++ vs)[t.tm.length + i]? = _
      rw [Array.getElem?_append_right (by omega), hts, Nat.add_sub_cancel_left]; exact h3
    · show (t.tm ++ args')[t.tm.length + i]? = _
      rw [List.getElem?_append_right (by omega), Nat.add_sub_cancel_left]; exact h4

/-- Nil slices handed over read as empty ones. -/
theorem acall_nrm {f : FuncId} {args : List AV} {s : AS} {K : AV → AS → Prop} (h : ACall P fx (.fn f []) (args.map AV.nrm) s K) : ACall P fx (.fn f []) args s K :=
  fun ρ a w vf vs hr hvf hvl hv => h ρ a w vf vs hr hvf (by simpa using hvl) fun i v x h1 h2 => by
    rw [List.getElem?_map] at h2
    cases hq : args[i]? with
    | none => simp [hq] at h2
    | some y => simp [hq] at h2; subst h2; exact (hv i v y h1 hq).nrm

theorem keepL_in {σ : Nat → Nat} {L : List OB} {rs : List Nat} {os : List OB} (h : keepL σ L rs os) : rs.length = os.length ∧ ∀ (j r : Nat) o, rs[j]? = some r → os[j]? = some o → L[r]? = some (o.ren σ) := ⟨(keepL_get h).1.symm, (keepL_get h).2⟩

/-- A call that is handed several own blocks. -/
theorem acall_ks {f : FuncId} {args argsC : List AV} {L0 : List OB} {fxc : List Nat} {R : AV → List OB → Prop} (h : ACalls P f args L0 fxc R) (rs : List Nat) {s : AS} (hk : keepL (nameIn rs s.L.length) s.L rs L0) (hn : rs.Nodup)
    (hfx : (rs.zipIdx.all fun p => !fx.contains p.1 || fxc.contains p.2) = true) (hargs : argsC = args.map (AV.ren (nameIn rs s.L.length))) {K : AV → AS → Prop} (hK : ∀ res L', R res L' → K (res.ren (nameIn rs s.L.length)) (s.back rs fxc L')) : ACall P fx (.fn f []) argsC s K :=
  acall h s rs hn (keepL_in hk).1 (keepL_in hk).2 (fun j r hj hr => by
    have := List.all_eq_true.1 hfx (r, j) (List.mem_zipIdx_iff_getElem?.2 hj)
    simp only [Bool.or_eq_true, Bool.not_eq_true', List.contains_eq_mem, decide_eq_true_eq, decide_eq_false_iff_not] at this
    rcases this with h1 | h1
    · exact absurd hr h1
    · exact h1) (by rw [List.append_nil]; exact hargs) fun res L' hR _ => hK res L' hR

theorem free_filt_aux (p : Nat → Bool) : (∀ x : AV, x.free = true → x.filt p = x) ∧ ∀ l : List AV, freeL l = true → filtL p l = l := by
  refine ⟨fun x => AV.rec (motive_1 := fun x => x.free = true → x.filt p = x) (motive_2 := fun l => freeL l = true → filtL p l = l) (motive_3 := fun _ => True) ?_ ?_ ?_ ?_ ?_ ?_ ?_ ?_ ?_ ?_ ?_ ?_ ?_ ?_ x, fun l => AV.rec_1 (motive_1 := fun x => x.free = true → x.filt p = x) (motive_2 := fun l => freeL l = true → filtL p l = l) (motive_3 := fun _ => True) ?_ ?_ ?_ ?_ ?_ ?_ ?_ ?_ ?_ ?_ ?_ ?_ ?_ ?_ l⟩
  all_goals simp_all [AV.filt, filtL, AV.free, freeL]
theorem AV.free_filt {p : Nat → Bool} {x : AV} (h : x.free = true) : x.filt p = x := (free_filt_aux p).1 x h
end

end Go.Pc
