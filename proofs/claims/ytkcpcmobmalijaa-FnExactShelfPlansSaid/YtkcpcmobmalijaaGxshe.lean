/- FnExactShelfPlans as it is stated is proved: whatever arguments it is handed, on whatever machine of the model, the law answers true. -/
import Derived.Test.YtkcpcmobmalijaaBti
set_option linter.unusedSimpArgs false
set_option linter.unusedVariables false
namespace Go.Proofs.Ytkcpcmobmalijaa
open Go Go.Proofs Go.Pc Go.ChangeShapes Go.WideShapes Go.ChangeAt Go.RowKit

set_option maxHeartbeats 800000 in
set_option maxRecDepth 100000 in
theorem FnExactShelfPlans_lifted (hC : FnExactShelfPlans_hyp) (os : Os) (started : os.Started) (H : Type) (enc : TypeId × Value → H) :
    ReturnsInHanded {} Try.checked os 6 .any (Rows.fnExactShelfPlansSpec.pre6 enc Try.prog Try.f6 Rows.fnExactShelfPlansRow.domain false) (Rows.fnExactShelfPlansSpec.post enc Try.prog Try.f6 false true false false) := by
  refine returnsInHanded_of_change (C := Try.checked) knob started (by kernel_rfl) Try.func6
    (ChangeSpec.witness6 (enc := enc) (C := Try.checked) false ⟨#[], #[.agg #[.int .i64 0, .int .i64 0, .slice none 0 0]], []⟩ 8 (by kernel_rfl) (by kernel_rfl) (by kernel_rfl) (by kernel_rfl)) ?_
  intro W base args ds gs before hval0 hW _ _
  have hval : ∀ (j : Nat) t v, Try.f6.params[j]? = some t → args[j]? = some v → Value.okWide Try.prog W .any base t v := hval0
  have hW' := hW
  obtain ⟨p, q, hA0, hV, rfl, _, _⟩ := hW
  have hA : DataW.TrodAll enc Try.prog W 0 (fun _ => true) true Try.f6.params.toList args.toList ds p := hA0
  rw [Try.params6] at hA hval
  obtain ⟨v0, d0, rfl, rfl, h0⟩ := trodAll_one hA
  obtain ⟨rfl, rfl⟩ := trodVars_none hV
  clear hA0 hval0
  simp only [List.append_nil] at hW'
  have hlt : ∀ x ∈ p, x.block < W.heap.size := fun x hx => by simpa using hW'.lt x (by simpa using hx)
  obtain ⟨x0, y0, z0⟩ := opened_work (hval 0 41 v0 rfl rfl) h0
  refine ((hC x0 z0).run (vals := #[v0]) rfl (fun i v x h1 h2 => ?_)).mono fun e W' ⟨he, hw⟩ => ?_
  · match i, h1, h2 with
    | 0, h1, h2 => cases h1; cases h2; exact y0
    | n + 1, h1, _ => simp at h1
  subst he
  have k0 := Below.trod laid (by kernel_rfl) (of_decide_eq_true (by kernel_rfl)) h0 hw (fun x hx => hlt x hx)
  exact ⟨_, rfl, _, _, _, [], p, [], hW', trodAll_mk1 (shut_bool Try.underlying4 true), trodAll_mk1 k0, rfl, hw.frame _, fun h => by cases h⟩

set_option maxRecDepth 100000 in
theorem FnExactShelfPlans_row (hC : FnExactShelfPlans_hyp) : Rows.FnExactShelfPlansSaid :=
  OpenClaim.holds_of_wide 6 Try.f6 rfl rfl rfl rfl rfl rfl rfl ⟨rfl, rfl, rfl, rfl, rfl⟩ rfl rfl rfl rfl rfl (by kernel_rfl) Try.func6 (by kernel_rfl)
    (of_decide_eq_true (by kernel_rfl)) (by unfold Func.isWrapper; first | (rw [if_pos (by decide +kernel)]; kernel_rfl) | (rw [if_neg (by decide +kernel)]; exact ⟨rfl, rfl⟩))
    (fun os started H enc _ => FnExactShelfPlans_lifted hC os started H enc)


theorem FnExactShelfPlans_proved : Rows.FnExactShelfPlansSaid := FnExactShelfPlans_row fnExactShelfPlans_c
end Go.Proofs.Ytkcpcmobmalijaa
