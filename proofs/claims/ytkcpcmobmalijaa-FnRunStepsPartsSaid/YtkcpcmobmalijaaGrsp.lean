/- FnRunStepsParts as it is stated is proved: whatever bytes it is handed, on whatever machine of the model, the law answers true. -/
import Derived.Test.YtkcpcmobmalijaaBrf
set_option linter.unusedSimpArgs false
set_option linter.unusedVariables false
namespace Go.Proofs.Ytkcpcmobmalijaa
open Go Go.Proofs Go.Pc Go.ChangeShapes Go.WideShapes Go.ChangeAt Go.RowKit

set_option maxHeartbeats 800000 in
set_option maxRecDepth 100000 in
theorem FnRunStepsParts_lifted (hC : LawC 12) (os : Os) (started : os.Started) (H : Type) (enc : TypeId × Value → H) :
    ReturnsInHanded {} Try.checked os 12 .any (Rows.fnRunStepsPartsSpec.pre6 enc Try.prog Try.f12 Rows.fnRunStepsPartsRow.domain false) (Rows.fnRunStepsPartsSpec.post enc Try.prog Try.f12 false true false false) := by
  refine returnsInHanded_of_change (C := Try.checked) knob started (by kernel_rfl) Try.func12
    (ChangeSpec.witness6 (enc := enc) (C := Try.checked) false ⟨#[], #[.slice none 0 0], []⟩ 8 (by kernel_rfl) (by kernel_rfl) (by kernel_rfl) (by kernel_rfl)) ?_
  intro W base args ds gs before hval0 hW _ _
  have hval : ∀ (j : Nat) t v, Try.f12.params[j]? = some t → args[j]? = some v → Value.okWide Try.prog W .any base t v := hval0
  have hW' := hW
  obtain ⟨p, q, hA0, hV, rfl, _, _⟩ := hW
  have hA : DataW.TrodAll enc Try.prog W 0 (fun _ => true) true Try.f12.params.toList args.toList ds p := hA0
  rw [Try.params12] at hA hval
  obtain ⟨v0, d0, rfl, rfl, h0⟩ := trodAll_one hA
  obtain ⟨rfl, rfl⟩ := trodVars_none hV
  obtain ⟨a0, len0, cap0, rfl⟩ := okWide_slice Try.underlying22 (hval 0 22 v0 rfl rfl)
  clear hA0 hval0
  simp only [List.append_nil] at hW'
  have hlt : ∀ x ∈ p, x.block < W.heap.size := fun x hx => by simpa using hW'.lt x hx
  obtain ⟨xs, hx, hc, hl, hB, hb⟩ := bytes_opened Try.underlying22 Try.underlying5 cells5 h0
  refine (hC.run hx hc hb hl hB).mono fun e W' ⟨he, hw⟩ => ?_
  subst he
  have harg := Below.trod laid (by kernel_rfl) (of_decide_eq_true (by kernel_rfl)) h0 hw hlt
  exact ⟨_, rfl, _, _, _, [], p, [], hW', trodAll_mk1 (shut_bool Try.underlying4 true), trodAll_mk1 harg, rfl, hw.frame _, fun h => by cases h⟩

set_option maxRecDepth 100000 in
theorem FnRunStepsParts_row (hC : LawC 12) : Rows.FnRunStepsPartsSaid :=
  OpenClaim.holds_of_wide 12 Try.f12 rfl rfl rfl rfl rfl rfl rfl ⟨rfl, rfl, rfl, rfl, rfl⟩ rfl rfl rfl rfl rfl (by kernel_rfl) Try.func12 (by kernel_rfl)
    (of_decide_eq_true (by kernel_rfl)) (by unfold Func.isWrapper; first | (rw [if_pos (by decide +kernel)]; kernel_rfl) | (rw [if_neg (by decide +kernel)]; exact ⟨rfl, rfl⟩))
    (fun os started H enc _ => FnRunStepsParts_lifted hC os started H enc)



theorem FnRunStepsParts_proved : Rows.FnRunStepsPartsSaid := FnRunStepsParts_row fnRunStepsParts_c
end Go.Proofs.Ytkcpcmobmalijaa
