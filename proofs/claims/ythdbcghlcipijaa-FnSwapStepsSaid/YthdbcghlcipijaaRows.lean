/-
  NARROWER THAN 'FOR EVERY INPUT', by the rows' own cells (each row's printed sentence says how): FnExactBoxOf: loops.
  DERIVED. THE GIVEN ROWS OF THIS SEAT. 12 by the template 'for every input the law returns true; each argument reads behind the call as it read before'; 0 by the template 'total and deterministic' (their statements: YthdbcghlcipijaaTotals.lean).
  GIVEN WITH THE SEED: the statements are not yours to turn. If you find one false, say at which input.
  Laid BY PROGRAM, IN A SANDBOX (cutbox-rows.mjs): the forced cells as the released guide's own fill.sh prints them over the translation b2e3224f02f67802… (all of the seat's roots in one cut). By AI agents, Wed Nov 11 2026. No macro, syntax, notation, axiom, sorry.
-/
import Derived.Test.YthdbcghlcipijaaChecked
import GoSem.Claim
import GoSem.ClaimJoined
import GoSem.ClaimMapViews
import Derived.JoinedTies
import Derived.KernelRfl
namespace Go.Proofs.Ythdbcghlcipijaa
/- THE CELL 'sum', in the pinned program and in every row, IS THE sha256 OF THE DUMP (.gsa) THAT YthdbcghlcipijaaProg.lean LOADS. Nothing in Lean hashes anything: it is a label: what it is worth is what the hold of that sum in a sandbox is worth. -/
noncomputable def Try.pinned : Pinned := { name := "ythdbcghlcipijaa", sum := "b2e3224f02f678024a0856144ac9eaa1bccdf14764e11dda139da3496505f20f", checked := Try.checked }
namespace Rows
def none {H : Type} : Left H := { results := [], args := [] }

/-- 'laws.FnSpanOf': WHATEVER THE INPUT: true; the input reads as it did. -/
def fnSpanOfSpec : ChangeSpec := { name := "fnSpanOf", fn := fun _ => fun
  | [d] => { results := [.lit (.bool true)], args := [d] }
  | _ => none }
def fnSpanOfRow : OpenClaim := { program := "ythdbcghlcipijaa", sum := "b2e3224f02f678024a0856144ac9eaa1bccdf14764e11dda139da3496505f20f", func := "loop.example/panecutter/laws.FnSpanOf", spec := "fnSpanOf", unfollowed := true, recurses := true, apart := false }
def FnSpanOfSaid : Prop := fnSpanOfRow.holds Try.pinned (OpenSpec.ofChange fnSpanOfSpec)

/-- ITS FALSE NEIGHBOUR: 'it returns false'. Refute it at one input. -/
def fnSpanOfWrong : ChangeSpec := { name := "fnSpanOf", fn := fun _ => fun
  | [d] => { results := [.lit (.bool false)], args := [d] }
  | _ => none }
def FnSpanOfWrongFalsely : Prop := fnSpanOfRow.holds Try.pinned (OpenSpec.ofChange fnSpanOfWrong)

/-- 'laws.FnWaitingOf': WHATEVER THE INPUT: true; the input reads as it did. -/
def fnWaitingOfSpec : ChangeSpec := { name := "fnWaitingOf", fn := fun _ => fun
  | [d] => { results := [.lit (.bool true)], args := [d] }
  | _ => none }
def fnWaitingOfRow : OpenClaim := { program := "ythdbcghlcipijaa", sum := "b2e3224f02f678024a0856144ac9eaa1bccdf14764e11dda139da3496505f20f", func := "loop.example/panecutter/laws.FnWaitingOf", spec := "fnWaitingOf", unfollowed := true, recurses := true, apart := false }
def FnWaitingOfSaid : Prop := fnWaitingOfRow.holds Try.pinned (OpenSpec.ofChange fnWaitingOfSpec)

/-- ITS FALSE NEIGHBOUR: 'it returns false'. Refute it at one input. -/
def fnWaitingOfWrong : ChangeSpec := { name := "fnWaitingOf", fn := fun _ => fun
  | [d] => { results := [.lit (.bool false)], args := [d] }
  | _ => none }
def FnWaitingOfWrongFalsely : Prop := fnWaitingOfRow.holds Try.pinned (OpenSpec.ofChange fnWaitingOfWrong)

/-- 'laws.FnSwapSteps': WHATEVER THE INPUT: true; the input reads as it did. -/
def fnSwapStepsSpec : ChangeSpec := { name := "fnSwapSteps", fn := fun _ => fun
  | [d] => { results := [.lit (.bool true)], args := [d] }
  | _ => none }
def fnSwapStepsRow : OpenClaim := { program := "ythdbcghlcipijaa", sum := "b2e3224f02f678024a0856144ac9eaa1bccdf14764e11dda139da3496505f20f", func := "loop.example/panecutter/laws.FnSwapSteps", spec := "fnSwapSteps", unfollowed := true, recurses := true, apart := false }
def FnSwapStepsSaid : Prop := fnSwapStepsRow.holds Try.pinned (OpenSpec.ofChange fnSwapStepsSpec)

/-- ITS FALSE NEIGHBOUR: 'it returns false'. Refute it at one input. -/
def fnSwapStepsWrong : ChangeSpec := { name := "fnSwapSteps", fn := fun _ => fun
  | [d] => { results := [.lit (.bool false)], args := [d] }
  | _ => none }
def FnSwapStepsWrongFalsely : Prop := fnSwapStepsRow.holds Try.pinned (OpenSpec.ofChange fnSwapStepsWrong)

/-- 'laws.FnPrunePlanSame': WHATEVER THE INPUT: true; the input reads as it did. -/
def fnPrunePlanSameSpec : ChangeSpec := { name := "fnPrunePlanSame", fn := fun _ => fun
  | [d] => { results := [.lit (.bool true)], args := [d] }
  | _ => none }
def fnPrunePlanSameRow : OpenClaim := { program := "ythdbcghlcipijaa", sum := "b2e3224f02f678024a0856144ac9eaa1bccdf14764e11dda139da3496505f20f", func := "loop.example/panecutter/laws.FnPrunePlanSame", spec := "fnPrunePlanSame", recurses := true, apart := false }
def FnPrunePlanSameSaid : Prop := fnPrunePlanSameRow.holds Try.pinned (OpenSpec.ofChange fnPrunePlanSameSpec)

/-- ITS FALSE NEIGHBOUR: 'it returns false'. Refute it at one input. -/
def fnPrunePlanSameWrong : ChangeSpec := { name := "fnPrunePlanSame", fn := fun _ => fun
  | [d] => { results := [.lit (.bool false)], args := [d] }
  | _ => none }
def FnPrunePlanSameWrongFalsely : Prop := fnPrunePlanSameRow.holds Try.pinned (OpenSpec.ofChange fnPrunePlanSameWrong)

/-- 'laws.FnUsedOf': WHATEVER THE INPUT: true; the input reads as it did. -/
def fnUsedOfSpec : ChangeSpec := { name := "fnUsedOf", fn := fun _ => fun
  | [d] => { results := [.lit (.bool true)], args := [d] }
  | _ => none }
def fnUsedOfRow : OpenClaim := { program := "ythdbcghlcipijaa", sum := "b2e3224f02f678024a0856144ac9eaa1bccdf14764e11dda139da3496505f20f", func := "loop.example/panecutter/laws.FnUsedOf", spec := "fnUsedOf", recurses := true, apart := false }
def FnUsedOfSaid : Prop := fnUsedOfRow.holds Try.pinned (OpenSpec.ofChange fnUsedOfSpec)

/-- ITS FALSE NEIGHBOUR: 'it returns false'. Refute it at one input. -/
def fnUsedOfWrong : ChangeSpec := { name := "fnUsedOf", fn := fun _ => fun
  | [d] => { results := [.lit (.bool false)], args := [d] }
  | _ => none }
def FnUsedOfWrongFalsely : Prop := fnUsedOfRow.holds Try.pinned (OpenSpec.ofChange fnUsedOfWrong)

/-- 'laws.FnBoxOf': WHATEVER THE INPUT: true; the input reads as it did. -/
def fnBoxOfSpec : ChangeSpec := { name := "fnBoxOf", fn := fun _ => fun
  | [d] => { results := [.lit (.bool true)], args := [d] }
  | _ => none }
def fnBoxOfRow : OpenClaim := { program := "ythdbcghlcipijaa", sum := "b2e3224f02f678024a0856144ac9eaa1bccdf14764e11dda139da3496505f20f", func := "loop.example/panecutter/laws.FnBoxOf", spec := "fnBoxOf", unfollowed := true, recurses := true, apart := false }
def FnBoxOfSaid : Prop := fnBoxOfRow.holds Try.pinned (OpenSpec.ofChange fnBoxOfSpec)

/-- ITS FALSE NEIGHBOUR: 'it returns false'. Refute it at one input. -/
def fnBoxOfWrong : ChangeSpec := { name := "fnBoxOf", fn := fun _ => fun
  | [d] => { results := [.lit (.bool false)], args := [d] }
  | _ => none }
def FnBoxOfWrongFalsely : Prop := fnBoxOfRow.holds Try.pinned (OpenSpec.ofChange fnBoxOfWrong)

/-- 'laws.FnPassBufferEnough': WHATEVER THE INPUT: true; the input reads as it did. -/
def fnPassBufferEnoughSpec : ChangeSpec := { name := "fnPassBufferEnough", fn := fun _ => fun
  | [d] => { results := [.lit (.bool true)], args := [d] }
  | _ => none }
def fnPassBufferEnoughRow : OpenClaim := { program := "ythdbcghlcipijaa", sum := "b2e3224f02f678024a0856144ac9eaa1bccdf14764e11dda139da3496505f20f", func := "loop.example/panecutter/laws.FnPassBufferEnough", spec := "fnPassBufferEnough", recurses := true, apart := false }
def FnPassBufferEnoughSaid : Prop := fnPassBufferEnoughRow.holds Try.pinned (OpenSpec.ofChange fnPassBufferEnoughSpec)

/-- ITS FALSE NEIGHBOUR: 'it returns false'. Refute it at one input. -/
def fnPassBufferEnoughWrong : ChangeSpec := { name := "fnPassBufferEnough", fn := fun _ => fun
  | [d] => { results := [.lit (.bool false)], args := [d] }
  | _ => none }
def FnPassBufferEnoughWrongFalsely : Prop := fnPassBufferEnoughRow.holds Try.pinned (OpenSpec.ofChange fnPassBufferEnoughWrong)

/-- 'laws.FnAllStepsBest': WHATEVER THE INPUT: true; the input reads as it did. -/
def fnAllStepsBestSpec : ChangeSpec := { name := "fnAllStepsBest", fn := fun _ => fun
  | [d] => { results := [.lit (.bool true)], args := [d] }
  | _ => none }
def fnAllStepsBestRow : OpenClaim := { program := "ythdbcghlcipijaa", sum := "b2e3224f02f678024a0856144ac9eaa1bccdf14764e11dda139da3496505f20f", func := "loop.example/panecutter/laws.FnAllStepsBest", spec := "fnAllStepsBest", unfollowed := true, recurses := true, apart := false }
def FnAllStepsBestSaid : Prop := fnAllStepsBestRow.holds Try.pinned (OpenSpec.ofChange fnAllStepsBestSpec)

/-- ITS FALSE NEIGHBOUR: 'it returns false'. Refute it at one input. -/
def fnAllStepsBestWrong : ChangeSpec := { name := "fnAllStepsBest", fn := fun _ => fun
  | [d] => { results := [.lit (.bool false)], args := [d] }
  | _ => none }
def FnAllStepsBestWrongFalsely : Prop := fnAllStepsBestRow.holds Try.pinned (OpenSpec.ofChange fnAllStepsBestWrong)

/-- 'laws.FnMirrorPlan': WHATEVER THE INPUT: true; the input reads as it did. -/
def fnMirrorPlanSpec : ChangeSpec := { name := "fnMirrorPlan", fn := fun _ => fun
  | [d] => { results := [.lit (.bool true)], args := [d] }
  | _ => none }
def fnMirrorPlanRow : OpenClaim := { program := "ythdbcghlcipijaa", sum := "b2e3224f02f678024a0856144ac9eaa1bccdf14764e11dda139da3496505f20f", func := "loop.example/panecutter/laws.FnMirrorPlan", spec := "fnMirrorPlan", recurses := true, apart := false }
def FnMirrorPlanSaid : Prop := fnMirrorPlanRow.holds Try.pinned (OpenSpec.ofChange fnMirrorPlanSpec)

/-- ITS FALSE NEIGHBOUR: 'it returns false'. Refute it at one input. -/
def fnMirrorPlanWrong : ChangeSpec := { name := "fnMirrorPlan", fn := fun _ => fun
  | [d] => { results := [.lit (.bool false)], args := [d] }
  | _ => none }
def FnMirrorPlanWrongFalsely : Prop := fnMirrorPlanRow.holds Try.pinned (OpenSpec.ofChange fnMirrorPlanWrong)

/-- 'laws.FnExactBoxOf': WHATEVER THE INPUT: true; the input reads as it did. -/
def fnExactBoxOfSpec : ChangeSpec := { name := "fnExactBoxOf", fn := fun _ => fun
  | [d1, d2, d3] => { results := [.lit (.bool true)], args := [d1, d2, d3] }
  | _ => none }
def fnExactBoxOfRow : OpenClaim := { program := "ythdbcghlcipijaa", sum := "b2e3224f02f678024a0856144ac9eaa1bccdf14764e11dda139da3496505f20f", func := "loop.example/panecutter/laws.FnExactBoxOf", spec := "fnExactBoxOf", recurses := true, loops := true, apart := false }
def FnExactBoxOfSaid : Prop := fnExactBoxOfRow.holds Try.pinned (OpenSpec.ofChange fnExactBoxOfSpec)

/-- ITS FALSE NEIGHBOUR: 'it returns false'. Refute it at one input. -/
def fnExactBoxOfWrong : ChangeSpec := { name := "fnExactBoxOf", fn := fun _ => fun
  | [d1, d2, d3] => { results := [.lit (.bool false)], args := [d1, d2, d3] }
  | _ => none }
def FnExactBoxOfWrongFalsely : Prop := fnExactBoxOfRow.holds Try.pinned (OpenSpec.ofChange fnExactBoxOfWrong)

/-- 'laws.FnWaitingOfLeast': WHATEVER THE INPUT: true; the input reads as it did. -/
def fnWaitingOfLeastSpec : ChangeSpec := { name := "fnWaitingOfLeast", fn := fun _ => fun
  | [d] => { results := [.lit (.bool true)], args := [d] }
  | _ => none }
def fnWaitingOfLeastRow : OpenClaim := { program := "ythdbcghlcipijaa", sum := "b2e3224f02f678024a0856144ac9eaa1bccdf14764e11dda139da3496505f20f", func := "loop.example/panecutter/laws.FnWaitingOfLeast", spec := "fnWaitingOfLeast", unfollowed := true, recurses := true, apart := false }
def FnWaitingOfLeastSaid : Prop := fnWaitingOfLeastRow.holds Try.pinned (OpenSpec.ofChange fnWaitingOfLeastSpec)

/-- ITS FALSE NEIGHBOUR: 'it returns false'. Refute it at one input. -/
def fnWaitingOfLeastWrong : ChangeSpec := { name := "fnWaitingOfLeast", fn := fun _ => fun
  | [d] => { results := [.lit (.bool false)], args := [d] }
  | _ => none }
def FnWaitingOfLeastWrongFalsely : Prop := fnWaitingOfLeastRow.holds Try.pinned (OpenSpec.ofChange fnWaitingOfLeastWrong)

/-- 'laws.FnTransposePlan': WHATEVER THE INPUT: true; the input reads as it did. -/
def fnTransposePlanSpec : ChangeSpec := { name := "fnTransposePlan", fn := fun _ => fun
  | [d] => { results := [.lit (.bool true)], args := [d] }
  | _ => none }
def fnTransposePlanRow : OpenClaim := { program := "ythdbcghlcipijaa", sum := "b2e3224f02f678024a0856144ac9eaa1bccdf14764e11dda139da3496505f20f", func := "loop.example/panecutter/laws.FnTransposePlan", spec := "fnTransposePlan", recurses := true, apart := false }
def FnTransposePlanSaid : Prop := fnTransposePlanRow.holds Try.pinned (OpenSpec.ofChange fnTransposePlanSpec)

/-- ITS FALSE NEIGHBOUR: 'it returns false'. Refute it at one input. -/
def fnTransposePlanWrong : ChangeSpec := { name := "fnTransposePlan", fn := fun _ => fun
  | [d] => { results := [.lit (.bool false)], args := [d] }
  | _ => none }
def FnTransposePlanWrongFalsely : Prop := fnTransposePlanRow.holds Try.pinned (OpenSpec.ofChange fnTransposePlanWrong)

/- THE SECOND FORM. 'bulk': how many values and letters a reading holds, each counted each time it is reached (what is shared counts as often as it is met; a slice's spare places count too). A statement '..UptoSaid' is the law's where the arguments, and the package variables that the reading takes, are together of bulk at most 1048576: NARROWER than '..Said'. Prove '..Said' where nothing that the law and all that it calls make is longer than what came in: it says more and counts as full. Else prove '..UptoSaid'. A law counts once. -/
mutual
def uptoBulk {H : Type} : DataW H → Nat
  | .lit (.string bytes) => bytes.length + 1
  | .lit _ => 1
  | .nil => 1
  | .ptr d => uptoBulk d + 1
  | .slice elems spare => uptoBulkAll elems + uptoBulkAll spare + 1
  | .agg parts => uptoBulkAll parts + 1
  | .iface _ d => uptoBulk d + 1
  | .map entries => uptoBulkEntries entries + 1
  | .held _ => 1
def uptoBulkAll {H : Type} : List (DataW H) → Nat
  | [] => 0
  | d :: r => uptoBulk d + uptoBulkAll r
def uptoBulkEntries {H : Type} : List (Lit × DataW H) → Nat
  | [] => 0
  | x :: r => uptoBulkEntry x + uptoBulkEntries r
def uptoBulkEntry {H : Type} : Lit × DataW H → Nat
  | (.string bytes, d) => bytes.length + uptoBulk d + 1
  | (_, d) => uptoBulk d + 1
 end
def uptoSmall : (H : Type) → List (DataW H) → Bool := fun _ ds => decide (uptoBulkAll ds ≤ 1048576)
def OpenSpec.upto (s : _root_.Go.ChangeSpec) : _root_.Go.OpenSpec := { _root_.Go.OpenSpec.ofChange s with cond := some uptoSmall }

/-- 'laws.FnSpanOf', WHERE WHAT IT READS IS OF BULK AT MOST 1048576: true; the input reads as it did. -/
def fnSpanOfUptoRow : OpenClaim := { program := "ythdbcghlcipijaa", sum := "b2e3224f02f678024a0856144ac9eaa1bccdf14764e11dda139da3496505f20f", func := "loop.example/panecutter/laws.FnSpanOf", spec := "fnSpanOf", unfollowed := true, recurses := true, apart := false, narrowed := true }
def FnSpanOfUptoSaid : Prop := fnSpanOfUptoRow.holds Try.pinned (OpenSpec.upto fnSpanOfSpec)

/-- 'laws.FnWaitingOf', WHERE WHAT IT READS IS OF BULK AT MOST 1048576: true; the input reads as it did. -/
def fnWaitingOfUptoRow : OpenClaim := { program := "ythdbcghlcipijaa", sum := "b2e3224f02f678024a0856144ac9eaa1bccdf14764e11dda139da3496505f20f", func := "loop.example/panecutter/laws.FnWaitingOf", spec := "fnWaitingOf", unfollowed := true, recurses := true, apart := false, narrowed := true }
def FnWaitingOfUptoSaid : Prop := fnWaitingOfUptoRow.holds Try.pinned (OpenSpec.upto fnWaitingOfSpec)

/-- 'laws.FnSwapSteps', WHERE WHAT IT READS IS OF BULK AT MOST 1048576: true; the input reads as it did. -/
def fnSwapStepsUptoRow : OpenClaim := { program := "ythdbcghlcipijaa", sum := "b2e3224f02f678024a0856144ac9eaa1bccdf14764e11dda139da3496505f20f", func := "loop.example/panecutter/laws.FnSwapSteps", spec := "fnSwapSteps", unfollowed := true, recurses := true, apart := false, narrowed := true }
def FnSwapStepsUptoSaid : Prop := fnSwapStepsUptoRow.holds Try.pinned (OpenSpec.upto fnSwapStepsSpec)

/-- 'laws.FnPrunePlanSame', WHERE WHAT IT READS IS OF BULK AT MOST 1048576: true; the input reads as it did. -/
def fnPrunePlanSameUptoRow : OpenClaim := { program := "ythdbcghlcipijaa", sum := "b2e3224f02f678024a0856144ac9eaa1bccdf14764e11dda139da3496505f20f", func := "loop.example/panecutter/laws.FnPrunePlanSame", spec := "fnPrunePlanSame", recurses := true, apart := false, narrowed := true }
def FnPrunePlanSameUptoSaid : Prop := fnPrunePlanSameUptoRow.holds Try.pinned (OpenSpec.upto fnPrunePlanSameSpec)

/-- 'laws.FnUsedOf', WHERE WHAT IT READS IS OF BULK AT MOST 1048576: true; the input reads as it did. -/
def fnUsedOfUptoRow : OpenClaim := { program := "ythdbcghlcipijaa", sum := "b2e3224f02f678024a0856144ac9eaa1bccdf14764e11dda139da3496505f20f", func := "loop.example/panecutter/laws.FnUsedOf", spec := "fnUsedOf", recurses := true, apart := false, narrowed := true }
def FnUsedOfUptoSaid : Prop := fnUsedOfUptoRow.holds Try.pinned (OpenSpec.upto fnUsedOfSpec)

/-- 'laws.FnBoxOf', WHERE WHAT IT READS IS OF BULK AT MOST 1048576: true; the input reads as it did. -/
def fnBoxOfUptoRow : OpenClaim := { program := "ythdbcghlcipijaa", sum := "b2e3224f02f678024a0856144ac9eaa1bccdf14764e11dda139da3496505f20f", func := "loop.example/panecutter/laws.FnBoxOf", spec := "fnBoxOf", unfollowed := true, recurses := true, apart := false, narrowed := true }
def FnBoxOfUptoSaid : Prop := fnBoxOfUptoRow.holds Try.pinned (OpenSpec.upto fnBoxOfSpec)

/-- 'laws.FnPassBufferEnough', WHERE WHAT IT READS IS OF BULK AT MOST 1048576: true; the input reads as it did. -/
def fnPassBufferEnoughUptoRow : OpenClaim := { program := "ythdbcghlcipijaa", sum := "b2e3224f02f678024a0856144ac9eaa1bccdf14764e11dda139da3496505f20f", func := "loop.example/panecutter/laws.FnPassBufferEnough", spec := "fnPassBufferEnough", recurses := true, apart := false, narrowed := true }
def FnPassBufferEnoughUptoSaid : Prop := fnPassBufferEnoughUptoRow.holds Try.pinned (OpenSpec.upto fnPassBufferEnoughSpec)

/-- 'laws.FnAllStepsBest', WHERE WHAT IT READS IS OF BULK AT MOST 1048576: true; the input reads as it did. -/
def fnAllStepsBestUptoRow : OpenClaim := { program := "ythdbcghlcipijaa", sum := "b2e3224f02f678024a0856144ac9eaa1bccdf14764e11dda139da3496505f20f", func := "loop.example/panecutter/laws.FnAllStepsBest", spec := "fnAllStepsBest", unfollowed := true, recurses := true, apart := false, narrowed := true }
def FnAllStepsBestUptoSaid : Prop := fnAllStepsBestUptoRow.holds Try.pinned (OpenSpec.upto fnAllStepsBestSpec)

/-- 'laws.FnMirrorPlan', WHERE WHAT IT READS IS OF BULK AT MOST 1048576: true; the input reads as it did. -/
def fnMirrorPlanUptoRow : OpenClaim := { program := "ythdbcghlcipijaa", sum := "b2e3224f02f678024a0856144ac9eaa1bccdf14764e11dda139da3496505f20f", func := "loop.example/panecutter/laws.FnMirrorPlan", spec := "fnMirrorPlan", recurses := true, apart := false, narrowed := true }
def FnMirrorPlanUptoSaid : Prop := fnMirrorPlanUptoRow.holds Try.pinned (OpenSpec.upto fnMirrorPlanSpec)

/-- 'laws.FnExactBoxOf', WHERE WHAT IT READS IS OF BULK AT MOST 1048576: true; the input reads as it did. -/
def fnExactBoxOfUptoRow : OpenClaim := { program := "ythdbcghlcipijaa", sum := "b2e3224f02f678024a0856144ac9eaa1bccdf14764e11dda139da3496505f20f", func := "loop.example/panecutter/laws.FnExactBoxOf", spec := "fnExactBoxOf", recurses := true, loops := true, apart := false, narrowed := true }
def FnExactBoxOfUptoSaid : Prop := fnExactBoxOfUptoRow.holds Try.pinned (OpenSpec.upto fnExactBoxOfSpec)

/-- 'laws.FnWaitingOfLeast', WHERE WHAT IT READS IS OF BULK AT MOST 1048576: true; the input reads as it did. -/
def fnWaitingOfLeastUptoRow : OpenClaim := { program := "ythdbcghlcipijaa", sum := "b2e3224f02f678024a0856144ac9eaa1bccdf14764e11dda139da3496505f20f", func := "loop.example/panecutter/laws.FnWaitingOfLeast", spec := "fnWaitingOfLeast", unfollowed := true, recurses := true, apart := false, narrowed := true }
def FnWaitingOfLeastUptoSaid : Prop := fnWaitingOfLeastUptoRow.holds Try.pinned (OpenSpec.upto fnWaitingOfLeastSpec)

/-- 'laws.FnTransposePlan', WHERE WHAT IT READS IS OF BULK AT MOST 1048576: true; the input reads as it did. -/
def fnTransposePlanUptoRow : OpenClaim := { program := "ythdbcghlcipijaa", sum := "b2e3224f02f678024a0856144ac9eaa1bccdf14764e11dda139da3496505f20f", func := "loop.example/panecutter/laws.FnTransposePlan", spec := "fnTransposePlan", recurses := true, apart := false, narrowed := true }
def FnTransposePlanUptoSaid : Prop := fnTransposePlanUptoRow.holds Try.pinned (OpenSpec.upto fnTransposePlanSpec)

end Rows
end Go.Proofs.Ythdbcghlcipijaa
