/- Texts of plans: the program's FormatPlan. -/
import Derived.Test.YtajkeegikligcaaDoorCpb
set_option linter.unusedSimpArgs false
set_option linter.unusedVariables false
namespace Go.Pc
open Go Go.Proofs Go.Lib Go.RowKit

/-- No memory of the call's own yet. -/
def rhoE : Env := { l := [], X := fun _ => False }
theorem rhoE_no (b : Nat) : ¬ no rhoE b := by simp [no, own, ownl, rhoE]
theorem rhoE_hr (w : World) : HR w rhoE [] :=
  ⟨rfl, fun b hb => hb.elim, fun b hb => (rhoE_no b (.inl hb)).elim, fun j j' b base base' h1 => by simp [rhoE] at h1, fun j o l h1 => by simp at h1, ⟨fun b hb => False.elim hb, fun b j base hb => False.elim hb, fun j S items b h1 => by simp at h1, fun j j' S S' items items' b h1 => by simp at h1⟩⟩

theorem St.belowE {w w' : World} {ρ' : Env} (h : St [] rhoE w ρ' w') : Below w.heap.size w w' :=
  ⟨h.fr.os, h.fr.tape, h.fr.out, h.fr.le, fun k hk => h.fr.same k hk fun hb => rhoE_no k (.inl hb)⟩

/-- A contract of values, over the memory. -/
theorem raw_of {P : Program} {f : FuncId} {v : Value} {x : AV} {u : Value} {w : World} (h : ACalls P f [x] [] [] (fun r L => r = .val u ∧ L = [])) (hv : VR w rhoE v x) : Calls P f #[v] w fun e w' => e = .returned u ∧ Below w.heap.size w w' := by
  refine (h.2 rhoE w #[v] (rhoE_hr w) rfl fun i v' x' h1 h2 => ?_).mono fun e w' ⟨v', res, L', ρ', he, ⟨hr, _⟩, _, hvr, _, hst⟩ => ?_
  · match i, h1, h2 with
    | 0, h1, h2 => simp at h1 h2; subst h1; subst h2; exact hv
    | i + 1, h1, _ => simp at h1
  · subst hr
    rw [val_inv hvr] at he
    exact ⟨he, St.belowE hst⟩

theorem Below.up {w W : World} {B : Nat} (h : Below w.heap.size w W) (hB : B ≤ w.heap.size) : Below B w W := ⟨h.os, h.tape, h.output, h.size, fun k hk => h.block k (by omega)⟩

end Go.Pc
