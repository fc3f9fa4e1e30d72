/- The abstract logic, fifteenth part: regions that draw their order, with a literal at the end of the head. -/
import Derived.Test.YthdbcghlcipijaaAls
set_option linter.unusedSimpArgs false
set_option linter.unusedVariables false
namespace Go.Pc
open Go

section
variable {P : Program} {T : TypeId → Ty} {fx bl : List Nat}

theorem QRun.app {all : List Oper} {L : List OB} {l1 l2 : List Oper} {tm tm1 tm2 rs1 rs2 : List AV} (h : QRun P all L l1 tm tm1 rs1) (h2 : QRun P all L l2 tm1 tm2 rs2) : QRun P all L (l1 ++ l2) tm tm2 (rs1 ++ rs2) := by
  induction h with
  | nil => exact h2
  | cons h _ ih => exact .cons h (ih h2)

/-- The literal behind the head. -/
def LitK (P : Program) (T : TypeId → Ty) (fx bl : List Nat) (ops : List Oper) (n : Nat) (K : AS → Prop) (s : AS) : Prop :=
  match ops[n]? with
  | some o => o.guard = none ∧ qOpL P T o.op s (fun r => sxOps P T fx bl ops (ops.drop (n + 1)) (s.put o.dst r) K)
  | none => False

theorem qrun_ofL (hT : TTOk P T) (all : List Oper) {K : AS → Prop} (n : Nat) (l : List Oper) (s : AS) (h : sxQs P T all n l s K) : ∃ tm' rs, QRun P all s.L (l.take n) s.tm tm' rs ∧ K ⟨tm', s.L⟩ := qrun_of hT all n l s h

theorem awp_draw_lit (hT : TTOk P T) (hm : P.follows .mixedOrders = true) {id : Nat} {ops : List Oper} {Q : Exit → AS → Prop} {s : AS} (n : Nat) (hn : n + 1 ≤ ops.length) (hB : headB ops.toArray (n + 1) = true)
    (htail : Region.sinkB .any ops.toArray (n + 1) = true ∧ Region.chainB .any ops.toArray (n + 1) = true)
    (hseq : Region.seqB .any ops.toArray (ops.length - (n + 1)) (n + 1) ((List.range ops.length).map (fun k => decide (k < n + 1))).toArray = true)
    (h : sxQs P T ops n ops s (LitK P T fx bl ops n (Q .normal))) : awp P fx (.region id ops.toArray true) Q s := by
  refine awp_drawQ (bl := bl) hT hm (n + 1) hn hB (.inr htail) hseq ?_
  obtain ⟨tm1, rs1, h1, h2⟩ := qrun_of hT ops n ops s h
  unfold LitK at h2
  cases ho : ops[n]? with
  | none => rw [ho] at h2; cases h2
  | some o =>
    rw [ho] at h2
    obtain ⟨hg, h3⟩ := h2
    obtain ⟨r, h4, h5⟩ := qOpL_sound hT h3
    refine ⟨putTm tm1 o.dst r, rs1 ++ [r], ?_, ?_⟩
    · rw [List.take_add_one, ho]
      exact h1.app (.cons (.inl ⟨.inl hg, h5⟩) (.nil _))
    · rw [put_putTm] at h4
      exact h4
theorem LitK_x (ops : List Oper) (n : Nat) (K : AS → Prop) (s : AS) : LitK P T fx bl ops n K s = match ops[n]? with
  | some o => o.guard = none ∧ qOpL P T o.op s (fun r => sxOps P T fx bl ops (ops.drop (n + 1)) (s.put o.dst r) K)
  | none => False := nrf rfl
end
end Go.Pc
