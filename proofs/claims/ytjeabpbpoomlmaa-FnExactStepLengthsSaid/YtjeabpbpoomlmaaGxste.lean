/- FnExactStepLengths as it is stated is proved: whatever work, plan and steps it is handed, on whatever machine of the model, the law answers true. -/
import Derived.Test.YtjeabpbpoomlmaaVd
set_option linter.unusedSimpArgs false
set_option linter.unusedVariables false
namespace Go.Proofs.Ytjeabpbpoomlmaa
open Go Go.Proofs Go.Pc Go.ChangeShapes Go.WideShapes Go.ChangeAt Go.RowKit

set_option maxHeartbeats 800000 in
set_option maxRecDepth 100000 in
theorem FnExactStepLengths_lifted (hC : FnExactStepLengths_hyp) (os : Os) (started : os.Started) (H : Type) (enc : TypeId × Value → H) :
    ReturnsInHanded {} Try.checked os 3 .any (Rows.fnExactStepLengthsSpec.pre6 enc Try.prog Try.f3 Rows.fnExactStepLengthsRow.domain false) (Rows.fnExactStepLengthsSpec.post enc Try.prog Try.f3 false true false false) := by
  refine returnsInHanded_of_change (C := Try.checked) knob started (by kernel_rfl) Try.func3
    (ChangeSpec.witness6 (enc := enc) (C := Try.checked) false ⟨#[], #[.agg #[.int .i64 0, .int .i64 0, .slice none 0 0], .agg #[.int .i64 0, .int .i64 0, .int .i64 0, .bool false, .slice none 0 0], .slice none 0 0], []⟩ 8 (by kernel_rfl) (by kernel_rfl) (by kernel_rfl) (by kernel_rfl)) ?_
  intro W base args ds gs before hval0 hW _ _
  have hval : ∀ (j : Nat) t v, Try.f3.params[j]? = some t → args[j]? = some v → Value.okWide Try.prog W .any base t v := hval0
  have hW' := hW
  obtain ⟨p, q, hA0, hV, rfl, _, _⟩ := hW
  have hA : DataW.TrodAll enc Try.prog W 0 (fun _ => true) true Try.f3.params.toList args.toList ds p := hA0
  rw [Try.params3] at hA hval
  obtain ⟨v0, v1, v2, d0, d1, d2, p0, p1, p2, rfl, rfl, rfl, h0, h1, h2⟩ := trodAll_three hA
  obtain ⟨rfl, rfl⟩ := trodVars_none hV
  clear hA0 hval0
  simp only [List.append_nil] at hW'
  have hlt : ∀ x ∈ p0 ++ (p1 ++ p2), x.block < W.heap.size := fun x hx => by simpa using hW'.lt x (by simpa using hx)
  obtain ⟨x0, y0, z0⟩ := opened_work (hval 0 24 v0 rfl rfl) h0
  obtain ⟨x1, y1, z1⟩ := opened_plan (hval 1 27 v1 rfl rfl) h1
  obtain ⟨x2, y2, z2⟩ := opened_ints (hval 2 28 v2 rfl rfl) h2
  refine ((hC x0 z0 x1 z1 x2 z2).run (vals := #[v0, v1, v2]) rfl (fun i v x h1 h2 => ?_)).mono fun e W' ⟨he, hw⟩ => ?_
  · match i, h1, h2 with
    | 0, h1, h2 => cases h1; cases h2; exact y0
    | 1, h1, h2 => cases h1; cases h2; exact y1
    | 2, h1, h2 => cases h1; cases h2; exact y2
    | n + 3, h1, _ => simp at h1
  subst he
  have k0 := Below.trod laid (by kernel_rfl) (of_decide_eq_true (by kernel_rfl)) h0 hw (fun x hx => hlt x (by simp [hx]))
  have k1 := Below.trod laid (by kernel_rfl) (of_decide_eq_true (by kernel_rfl)) h1 hw (fun x hx => hlt x (by simp [hx]))
  have k2 := Below.trod laid (by kernel_rfl) (of_decide_eq_true (by kernel_rfl)) h2 hw (fun x hx => hlt x (by simp [hx]))
  exact ⟨_, rfl, _, _, _, [], p0 ++ (p1 ++ p2), [], hW', trodAll_mk1 (shut_bool Try.underlying4 true), trodAll_mk3 k0 k1 k2, rfl, hw.frame _, fun h => by cases h⟩

set_option maxRecDepth 100000 in
theorem FnExactStepLengths_row (hC : FnExactStepLengths_hyp) : Rows.FnExactStepLengthsSaid :=
  OpenClaim.holds_of_wide 3 Try.f3 rfl rfl rfl rfl rfl rfl rfl ⟨rfl, rfl, rfl, rfl, rfl⟩ rfl rfl rfl rfl rfl (by kernel_rfl) Try.func3 (by kernel_rfl)
    (of_decide_eq_true (by kernel_rfl)) (by unfold Func.isWrapper; first | (rw [if_pos (by decide +kernel)]; kernel_rfl) | (rw [if_neg (by decide +kernel)]; exact ⟨rfl, rfl⟩))
    (fun os started H enc _ => FnExactStepLengths_lifted hC os started H enc)


theorem FnExactStepLengths_proved : Rows.FnExactStepLengthsSaid := FnExactStepLengths_row fnExactStepLengths_c
end Go.Proofs.Ytjeabpbpoomlmaa
