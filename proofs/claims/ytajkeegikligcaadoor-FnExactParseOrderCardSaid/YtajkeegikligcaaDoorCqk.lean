/- Drawn regions in worlds of a kind: the rule of XAlx once more. Printed by gen_kdraw.py. -/
import Derived.Test.YtajkeegikligcaaDoorCpd
set_option linter.unusedSimpArgs false
set_option linter.unusedVariables false
namespace Go.Pc
open Go Go.Proofs

section
variable {P : Program} {T : TypeId → Ty} {fx bl : List Nat}

/-- A quiet operation in worlds of a kind. -/
def QOKK (P : Program) (KK : Env → World → Prop) (o : Oper) (s : AS) (r : AV) : Prop :=
  ∀ (ρ : Env) (a : Act) (w : World), HR w ρ s.L → KK ρ w → (∀ x ∈ o.op.operands, VR w ρ (a.eval x) (s.ev x)) → Out P (fun v w' => VR w' ρ v r ∧ Grow w w') ((execOp a.eval o).run P w)
theorem QOK.k {KK : Env → World → Prop} {o : Oper} {s : AS} {r : AV} (h : QOK P o s r) : QOKK P KK o s r := fun ρ a w h1 _ h2 => h ρ a w h1 h2
/-- A quiet call in worlds of a kind. -/
def QCallK (P : Program) (KK : Env → World → Prop) (L : List OB) (f : AV) (args : List AV) (r : AV) : Prop :=
  ∀ (ρ : Env) (w : World) (vf : Value) (vs : Array Value), HR w ρ L → KK ρ w → VR w ρ vf f → vs.size = args.length → (∀ (i : Nat) v x, vs[i]? = some v → args[i]? = some x → VR w ρ v x) →
    Out P (fun v w' => VR w' ρ v r ∧ Grow w w') ((do let d ← Deferred.ofValue vf vs; invoke d.target d.args : Sem Next).run P w)

/-- What a quiet operation yields, calls in worlds of the kind. -/
def qOpK (P : Program) (T : TypeId → Ty) (KK : Env → World → Prop) (o : Op) (s : AS) (k : AV → Prop) : Prop :=
  match o with
  | .call { callee := .value f, args, .. } => ∃ r, QCallK P KK s.L (s.ev f) (args.toList.map s.ev) r ∧ k r
  | o => qOp P T o s k
def sxQsK (P : Program) (T : TypeId → Ty) (KK : Env → World → Prop) : Nat → List Oper → AS → (AS → Prop) → Prop
  | 0, _, s, k => k s
  | _ + 1, [], s, k => k s
  | n + 1, o :: rest, s, k => o.guard = none ∧ qOpK P T KK o.op s (fun r => sxQsK P T KK n rest (s.put o.dst r) k)
def QNK (P : Program) (T : TypeId → Ty) (KK : Env → World → Prop) (n : Nat) (rest : List Oper) (dst : Option Tmp) (s : AS) (k : AS → Prop) (r : AV) : Prop := sxQsK P T KK n rest (s.put dst r) k
def QCK (P : Program) (KK : Env → World → Prop) (L : List OB) (f : AV) (args : List AV) (k : AV → Prop) : Prop := ∃ r, QCallK P KK L f args r ∧ k r
theorem qnk_eq (KK : Env → World → Prop) (n : Nat) (rest : List Oper) (dst : Option Tmp) (s : AS) (k : AS → Prop) (r : AV) : QNK P T KK n rest dst s k r = sxQsK P T KK n rest (s.put dst r) k := nrf rfl
theorem sxQsK_zero (KK : Env → World → Prop) (l : List Oper) (s : AS) (k : AS → Prop) : sxQsK P T KK 0 l s k = k s := by cases l <;> rfl
theorem sxQsK_cons (KK : Env → World → Prop) (n : Nat) (dst : Option Tmp) (op : Op) (ty : TypeId) (pos : String) (after : Array Edge) (rest : List Oper) (s : AS) (k : AS → Prop) :
    sxQsK P T KK (n + 1) ({ dst := dst, op := op, type := ty, pos := pos, after := after, guard := none } :: rest) s k = qOpK P T KK op s (QNK P T KK n rest dst s k) := by
  simp only [sxQsK, true_and]; rfl
theorem qOpK_call (KK : Env → World → Prop) (f : Operand) (args : Array Operand) (ts : Array TypeId) (s : AS) (k : AV → Prop) : qOpK P T KK (.call { callee := .value f, args := args, argTypes := ts }) s k = QCK P KK s.L (s.ev f) (args.toList.map s.ev) k := nrf rfl
theorem qOpK_field (KK : Env → World → Prop) (t : TypeId) (x : Operand) (i : Nat) (s : AS) (k : AV → Prop) : qOpK P T KK (.fieldAddr t x i) s k = qOp P T (.fieldAddr t x i) s k := nrf rfl
theorem qOpK_load (KK : Env → World → Prop) (t : TypeId) (x : Operand) (s : AS) (k : AV → Prop) : qOpK P T KK (.load t x) s k = qOp P T (.load t x) s k := nrf rfl
theorem qOpK_assign (KK : Env → World → Prop) (x : Operand) (s : AS) (k : AV → Prop) : qOpK P T KK (.assign x) s k = qOp P T (.assign x) s k := nrf rfl
theorem qOpK_build (KK : Env → World → Prop) (t : TypeId) (n : Nat) (xs : Array (Nat × Operand)) (s : AS) (k : AV → Prop) : qOpK P T KK (.buildSlice t n xs) s k = qOp P T (.buildSlice t n xs) s k := nrf rfl
theorem qOpK_move (KK : Env → World → Prop) (x : Operand) (s : AS) (k : AV → Prop) : qOpK P T KK (.move x) s k = qOp P T (.move x) s k := nrf rfl

end
theorem DCqk0 : type_of% @qnk_eq ∧ type_of% @sxQsK_zero ∧ type_of% @sxQsK_cons ∧ type_of% @qOpK_call ∧ type_of% @qOpK_field ∧ type_of% @qOpK_load ∧ type_of% @qOpK_move ∧ type_of% @qOpK_assign ∧ type_of% @qOpK_build := ⟨@qnk_eq, @sxQsK_zero, @sxQsK_cons, @qOpK_call, @qOpK_field, @qOpK_load, @qOpK_move, @qOpK_assign, @qOpK_build⟩
end Go.Pc
