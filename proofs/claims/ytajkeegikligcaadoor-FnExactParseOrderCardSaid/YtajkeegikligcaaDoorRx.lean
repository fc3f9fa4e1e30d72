/- From a contract to a given statement: rows over arguments of any plain types (numbers, bools, texts, structs and slices of such). -/
import Derived.Test.YtajkeegikligcaaDoorRow
import Derived.Deep.Slices
set_option linter.unusedSimpArgs false
set_option linter.unusedVariables false
namespace Go.Pc
open Go Go.Proofs Go.ChangeShapes Go.WideShapes Go.ChangeAt Go.RowKit

def rho0 : Env := { l := [], X := fun _ => False }
theorem rho0_no : ∀ b, ¬ no rho0 b := fun b hb => by
  rcases hb with (⟨j, base, hj⟩ | hb) | hb
  · simp [rho0] at hj
  · exact hb
  · exact hb

/-- A contract met by arguments that read as its own. -/
theorem ACalls.run {F : FuncId} {args : List AV} (h : ACalls Tryd.prog F args [] [] (fun r L => r = .val (.bool true) ∧ L = [])) {W : World} {vals : Array Value} (hs : vals.size = args.length) (hv : ∀ (i : Nat) v x, vals[i]? = some v → args[i]? = some x → VR W rho0 v x) :
    Calls Tryd.prog F vals W (fun e W' => e = .returned (.bool true) ∧ Below W.heap.size W W') := by
  refine h.2 rho0 W vals ⟨rfl, fun b hb => hb.elim, fun b hb => (rho0_no b (.inl hb)).elim, fun j j' b base base' h1 => by simp [rho0] at h1, fun j o l h1 => by simp at h1, ⟨fun b hb => False.elim hb, fun b j base hb => False.elim hb, fun j S items b h1 => by simp at h1, fun j j' S S' items items' b h1 => by simp at h1⟩⟩ hs hv |>.mono fun e W' ⟨v, res, L', ρ', he, ⟨hR, hL⟩, _, hvr, hhr, hst⟩ => ?_
  subst hR
  have := val_inv hvr
  subst this
  exact ⟨he, hst.fr.os, hst.fr.tape, hst.fr.out, hst.fr.le, fun k hk => hst.fr.same k hk fun hb => rho0_no k (.inl hb)⟩

end Go.Pc
