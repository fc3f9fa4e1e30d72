/-
  NARROWER THAN 'FOR EVERY INPUT', by the rows' own cells (each row's printed sentence says how): FnExactStepLengths: loops · FnExactCutLengths: loops · FnExactUsedOf: loops · FnExactWastesOf: loops · FnExactPlacesOf: loops · FnExactMirrorPlan: loops · FnExactTransposePlan: loops.
  DERIVED. THE GIVEN ROWS OF THIS SEAT. 12 by the template 'for every input the law returns true; each argument reads behind the call as it read before'; 0 by the template 'total and deterministic' (their statements: YtjeabpbpoomlmaaTotals.lean).
  GIVEN WITH THE SEED: the statements are not yours to turn. If you find one false, say at which input.
  Laid BY PROGRAM, IN A SANDBOX (cutbox-rows.mjs): the forced cells as the released guide's own fill.sh prints them over the translation 1c6303eb3e214ce4… (all of the seat's roots in one cut). By AI agents, Wed Nov 11 2026. No macro, syntax, notation, axiom, sorry.
-/
import Derived.Test.YtjeabpbpoomlmaaChecked
import GoSem.Claim
import GoSem.ClaimJoined
import GoSem.ClaimMapViews
import Derived.JoinedTies
import Derived.KernelRfl
namespace Go.Proofs.Ytjeabpbpoomlmaa
/- THE CELL 'sum', in the pinned program and in every row, IS THE sha256 OF THE DUMP (.gsa) THAT YtjeabpbpoomlmaaProg.lean LOADS. Nothing in Lean hashes anything: it is a label: what it is worth is what the hold of that sum in a sandbox is worth. -/
noncomputable def Try.pinned : Pinned := { name := "ytjeabpbpoomlmaa", sum := "1c6303eb3e214ce46102d10838169e4303751aaa46b3dd9ad61ef1e18eae1e83", checked := Try.checked }
namespace Rows
def none {H : Type} : Left H := { results := [], args := [] }

/-- 'laws.FnExactStepLengths': WHATEVER THE INPUT: true; the input reads as it did. -/
def fnExactStepLengthsSpec : ChangeSpec := { name := "fnExactStepLengths", fn := fun _ => fun
  | [d1, d2, d3] => { results := [.lit (.bool true)], args := [d1, d2, d3] }
  | _ => none }
def fnExactStepLengthsRow : OpenClaim := { program := "ytjeabpbpoomlmaa", sum := "1c6303eb3e214ce46102d10838169e4303751aaa46b3dd9ad61ef1e18eae1e83", func := "loop.example/panecutter/laws.FnExactStepLengths", spec := "fnExactStepLengths", unfollowed := true, recurses := true, loops := true, apart := false }
def FnExactStepLengthsSaid : Prop := fnExactStepLengthsRow.holds Try.pinned (OpenSpec.ofChange fnExactStepLengthsSpec)

/-- ITS FALSE NEIGHBOUR: 'it returns false'. Refute it at one input. -/
def fnExactStepLengthsWrong : ChangeSpec := { name := "fnExactStepLengths", fn := fun _ => fun
  | [d1, d2, d3] => { results := [.lit (.bool false)], args := [d1, d2, d3] }
  | _ => none }
def FnExactStepLengthsWrongFalsely : Prop := fnExactStepLengthsRow.holds Try.pinned (OpenSpec.ofChange fnExactStepLengthsWrong)

/-- 'laws.FnExactCutLengths': WHATEVER THE INPUT: true; the input reads as it did. -/
def fnExactCutLengthsSpec : ChangeSpec := { name := "fnExactCutLengths", fn := fun _ => fun
  | [d1, d2] => { results := [.lit (.bool true)], args := [d1, d2] }
  | _ => none }
def fnExactCutLengthsRow : OpenClaim := { program := "ytjeabpbpoomlmaa", sum := "1c6303eb3e214ce46102d10838169e4303751aaa46b3dd9ad61ef1e18eae1e83", func := "loop.example/panecutter/laws.FnExactCutLengths", spec := "fnExactCutLengths", recurses := true, loops := true, apart := false }
def FnExactCutLengthsSaid : Prop := fnExactCutLengthsRow.holds Try.pinned (OpenSpec.ofChange fnExactCutLengthsSpec)

/-- ITS FALSE NEIGHBOUR: 'it returns false'. Refute it at one input. -/
def fnExactCutLengthsWrong : ChangeSpec := { name := "fnExactCutLengths", fn := fun _ => fun
  | [d1, d2] => { results := [.lit (.bool false)], args := [d1, d2] }
  | _ => none }
def FnExactCutLengthsWrongFalsely : Prop := fnExactCutLengthsRow.holds Try.pinned (OpenSpec.ofChange fnExactCutLengthsWrong)

/-- 'laws.FnExactUsedOf': WHATEVER THE INPUT: true; the input reads as it did. -/
def fnExactUsedOfSpec : ChangeSpec := { name := "fnExactUsedOf", fn := fun _ => fun
  | [d1, d2] => { results := [.lit (.bool true)], args := [d1, d2] }
  | _ => none }
def fnExactUsedOfRow : OpenClaim := { program := "ytjeabpbpoomlmaa", sum := "1c6303eb3e214ce46102d10838169e4303751aaa46b3dd9ad61ef1e18eae1e83", func := "loop.example/panecutter/laws.FnExactUsedOf", spec := "fnExactUsedOf", recurses := true, loops := true, apart := false }
def FnExactUsedOfSaid : Prop := fnExactUsedOfRow.holds Try.pinned (OpenSpec.ofChange fnExactUsedOfSpec)

/-- ITS FALSE NEIGHBOUR: 'it returns false'. Refute it at one input. -/
def fnExactUsedOfWrong : ChangeSpec := { name := "fnExactUsedOf", fn := fun _ => fun
  | [d1, d2] => { results := [.lit (.bool false)], args := [d1, d2] }
  | _ => none }
def FnExactUsedOfWrongFalsely : Prop := fnExactUsedOfRow.holds Try.pinned (OpenSpec.ofChange fnExactUsedOfWrong)

/-- 'laws.FnExactWastesOf': WHATEVER THE INPUT: true; the input reads as it did. -/
def fnExactWastesOfSpec : ChangeSpec := { name := "fnExactWastesOf", fn := fun _ => fun
  | [d1, d2] => { results := [.lit (.bool true)], args := [d1, d2] }
  | _ => none }
def fnExactWastesOfRow : OpenClaim := { program := "ytjeabpbpoomlmaa", sum := "1c6303eb3e214ce46102d10838169e4303751aaa46b3dd9ad61ef1e18eae1e83", func := "loop.example/panecutter/laws.FnExactWastesOf", spec := "fnExactWastesOf", recurses := true, loops := true, apart := false }
def FnExactWastesOfSaid : Prop := fnExactWastesOfRow.holds Try.pinned (OpenSpec.ofChange fnExactWastesOfSpec)

/-- ITS FALSE NEIGHBOUR: 'it returns false'. Refute it at one input. -/
def fnExactWastesOfWrong : ChangeSpec := { name := "fnExactWastesOf", fn := fun _ => fun
  | [d1, d2] => { results := [.lit (.bool false)], args := [d1, d2] }
  | _ => none }
def FnExactWastesOfWrongFalsely : Prop := fnExactWastesOfRow.holds Try.pinned (OpenSpec.ofChange fnExactWastesOfWrong)

/-- 'laws.FnExactPlacesOf': WHATEVER THE INPUT: true; the input reads as it did. -/
def fnExactPlacesOfSpec : ChangeSpec := { name := "fnExactPlacesOf", fn := fun _ => fun
  | [d1, d2] => { results := [.lit (.bool true)], args := [d1, d2] }
  | _ => none }
def fnExactPlacesOfRow : OpenClaim := { program := "ytjeabpbpoomlmaa", sum := "1c6303eb3e214ce46102d10838169e4303751aaa46b3dd9ad61ef1e18eae1e83", func := "loop.example/panecutter/laws.FnExactPlacesOf", spec := "fnExactPlacesOf", recurses := true, loops := true, apart := false }
def FnExactPlacesOfSaid : Prop := fnExactPlacesOfRow.holds Try.pinned (OpenSpec.ofChange fnExactPlacesOfSpec)

/-- ITS FALSE NEIGHBOUR: 'it returns false'. Refute it at one input. -/
def fnExactPlacesOfWrong : ChangeSpec := { name := "fnExactPlacesOf", fn := fun _ => fun
  | [d1, d2] => { results := [.lit (.bool false)], args := [d1, d2] }
  | _ => none }
def FnExactPlacesOfWrongFalsely : Prop := fnExactPlacesOfRow.holds Try.pinned (OpenSpec.ofChange fnExactPlacesOfWrong)

/-- 'laws.FnExactMirrorPlan': WHATEVER THE INPUT: true; the input reads as it did. -/
def fnExactMirrorPlanSpec : ChangeSpec := { name := "fnExactMirrorPlan", fn := fun _ => fun
  | [d1, d2] => { results := [.lit (.bool true)], args := [d1, d2] }
  | _ => none }
def fnExactMirrorPlanRow : OpenClaim := { program := "ytjeabpbpoomlmaa", sum := "1c6303eb3e214ce46102d10838169e4303751aaa46b3dd9ad61ef1e18eae1e83", func := "loop.example/panecutter/laws.FnExactMirrorPlan", spec := "fnExactMirrorPlan", recurses := true, loops := true, apart := false }
def FnExactMirrorPlanSaid : Prop := fnExactMirrorPlanRow.holds Try.pinned (OpenSpec.ofChange fnExactMirrorPlanSpec)

/-- ITS FALSE NEIGHBOUR: 'it returns false'. Refute it at one input. -/
def fnExactMirrorPlanWrong : ChangeSpec := { name := "fnExactMirrorPlan", fn := fun _ => fun
  | [d1, d2] => { results := [.lit (.bool false)], args := [d1, d2] }
  | _ => none }
def FnExactMirrorPlanWrongFalsely : Prop := fnExactMirrorPlanRow.holds Try.pinned (OpenSpec.ofChange fnExactMirrorPlanWrong)

/-- 'laws.FnExactTransposePlan': WHATEVER THE INPUT: true; the input reads as it did. -/
def fnExactTransposePlanSpec : ChangeSpec := { name := "fnExactTransposePlan", fn := fun _ => fun
  | [d1, d2] => { results := [.lit (.bool true)], args := [d1, d2] }
  | _ => none }
def fnExactTransposePlanRow : OpenClaim := { program := "ytjeabpbpoomlmaa", sum := "1c6303eb3e214ce46102d10838169e4303751aaa46b3dd9ad61ef1e18eae1e83", func := "loop.example/panecutter/laws.FnExactTransposePlan", spec := "fnExactTransposePlan", recurses := true, loops := true, apart := false }
def FnExactTransposePlanSaid : Prop := fnExactTransposePlanRow.holds Try.pinned (OpenSpec.ofChange fnExactTransposePlanSpec)

/-- ITS FALSE NEIGHBOUR: 'it returns false'. Refute it at one input. -/
def fnExactTransposePlanWrong : ChangeSpec := { name := "fnExactTransposePlan", fn := fun _ => fun
  | [d1, d2] => { results := [.lit (.bool false)], args := [d1, d2] }
  | _ => none }
def FnExactTransposePlanWrongFalsely : Prop := fnExactTransposePlanRow.holds Try.pinned (OpenSpec.ofChange fnExactTransposePlanWrong)

/-- 'laws.FnStepLengths': WHATEVER THE INPUT: true; the input reads as it did. -/
def fnStepLengthsSpec : ChangeSpec := { name := "fnStepLengths", fn := fun _ => fun
  | [d] => { results := [.lit (.bool true)], args := [d] }
  | _ => none }
def fnStepLengthsRow : OpenClaim := { program := "ytjeabpbpoomlmaa", sum := "1c6303eb3e214ce46102d10838169e4303751aaa46b3dd9ad61ef1e18eae1e83", func := "loop.example/panecutter/laws.FnStepLengths", spec := "fnStepLengths", unfollowed := true, recurses := true, apart := false }
def FnStepLengthsSaid : Prop := fnStepLengthsRow.holds Try.pinned (OpenSpec.ofChange fnStepLengthsSpec)

/-- ITS FALSE NEIGHBOUR: 'it returns false'. Refute it at one input. -/
def fnStepLengthsWrong : ChangeSpec := { name := "fnStepLengths", fn := fun _ => fun
  | [d] => { results := [.lit (.bool false)], args := [d] }
  | _ => none }
def FnStepLengthsWrongFalsely : Prop := fnStepLengthsRow.holds Try.pinned (OpenSpec.ofChange fnStepLengthsWrong)

/-- 'laws.FnGoodPlan': WHATEVER THE INPUT: true; the input reads as it did. -/
def fnGoodPlanSpec : ChangeSpec := { name := "fnGoodPlan", fn := fun _ => fun
  | [d] => { results := [.lit (.bool true)], args := [d] }
  | _ => none }
def fnGoodPlanRow : OpenClaim := { program := "ytjeabpbpoomlmaa", sum := "1c6303eb3e214ce46102d10838169e4303751aaa46b3dd9ad61ef1e18eae1e83", func := "loop.example/panecutter/laws.FnGoodPlan", spec := "fnGoodPlan", recurses := true, apart := false }
def FnGoodPlanSaid : Prop := fnGoodPlanRow.holds Try.pinned (OpenSpec.ofChange fnGoodPlanSpec)

/-- ITS FALSE NEIGHBOUR: 'it returns false'. Refute it at one input. -/
def fnGoodPlanWrong : ChangeSpec := { name := "fnGoodPlan", fn := fun _ => fun
  | [d] => { results := [.lit (.bool false)], args := [d] }
  | _ => none }
def FnGoodPlanWrongFalsely : Prop := fnGoodPlanRow.holds Try.pinned (OpenSpec.ofChange fnGoodPlanWrong)

/-- 'laws.FnSamePlaces': WHATEVER THE INPUT: true; the input reads as it did. -/
def fnSamePlacesSpec : ChangeSpec := { name := "fnSamePlaces", fn := fun _ => fun
  | [d] => { results := [.lit (.bool true)], args := [d] }
  | _ => none }
def fnSamePlacesRow : OpenClaim := { program := "ytjeabpbpoomlmaa", sum := "1c6303eb3e214ce46102d10838169e4303751aaa46b3dd9ad61ef1e18eae1e83", func := "loop.example/panecutter/laws.FnSamePlaces", spec := "fnSamePlaces", recurses := true, apart := false }
def FnSamePlacesSaid : Prop := fnSamePlacesRow.holds Try.pinned (OpenSpec.ofChange fnSamePlacesSpec)

/-- ITS FALSE NEIGHBOUR: 'it returns false'. Refute it at one input. -/
def fnSamePlacesWrong : ChangeSpec := { name := "fnSamePlaces", fn := fun _ => fun
  | [d] => { results := [.lit (.bool false)], args := [d] }
  | _ => none }
def FnSamePlacesWrongFalsely : Prop := fnSamePlacesRow.holds Try.pinned (OpenSpec.ofChange fnSamePlacesWrong)

/-- 'laws.FnRunSteps': WHATEVER THE INPUT: true; the input reads as it did. -/
def fnRunStepsSpec : ChangeSpec := { name := "fnRunSteps", fn := fun _ => fun
  | [d] => { results := [.lit (.bool true)], args := [d] }
  | _ => none }
def fnRunStepsRow : OpenClaim := { program := "ytjeabpbpoomlmaa", sum := "1c6303eb3e214ce46102d10838169e4303751aaa46b3dd9ad61ef1e18eae1e83", func := "loop.example/panecutter/laws.FnRunSteps", spec := "fnRunSteps", unfollowed := true, recurses := true, apart := false }
def FnRunStepsSaid : Prop := fnRunStepsRow.holds Try.pinned (OpenSpec.ofChange fnRunStepsSpec)

/-- ITS FALSE NEIGHBOUR: 'it returns false'. Refute it at one input. -/
def fnRunStepsWrong : ChangeSpec := { name := "fnRunSteps", fn := fun _ => fun
  | [d] => { results := [.lit (.bool false)], args := [d] }
  | _ => none }
def FnRunStepsWrongFalsely : Prop := fnRunStepsRow.holds Try.pinned (OpenSpec.ofChange fnRunStepsWrong)

/-- 'laws.FnRunStepsParts': WHATEVER THE INPUT: true; the input reads as it did. -/
def fnRunStepsPartsSpec : ChangeSpec := { name := "fnRunStepsParts", fn := fun _ => fun
  | [d] => { results := [.lit (.bool true)], args := [d] }
  | _ => none }
def fnRunStepsPartsRow : OpenClaim := { program := "ytjeabpbpoomlmaa", sum := "1c6303eb3e214ce46102d10838169e4303751aaa46b3dd9ad61ef1e18eae1e83", func := "loop.example/panecutter/laws.FnRunStepsParts", spec := "fnRunStepsParts", unfollowed := true, recurses := true, apart := false }
def FnRunStepsPartsSaid : Prop := fnRunStepsPartsRow.holds Try.pinned (OpenSpec.ofChange fnRunStepsPartsSpec)

/-- ITS FALSE NEIGHBOUR: 'it returns false'. Refute it at one input. -/
def fnRunStepsPartsWrong : ChangeSpec := { name := "fnRunStepsParts", fn := fun _ => fun
  | [d] => { results := [.lit (.bool false)], args := [d] }
  | _ => none }
def FnRunStepsPartsWrongFalsely : Prop := fnRunStepsPartsRow.holds Try.pinned (OpenSpec.ofChange fnRunStepsPartsWrong)

/- THE SECOND FORM. 'bulk': how many values and letters a reading holds, each counted each time it is reached (what is shared counts as often as it is met; a slice's spare places count too). A statement '..UptoSaid' is the law's where the arguments, and the package variables that the reading takes, are together of bulk at most 1048576: NARROWER than '..Said'. Prove '..Said' where nothing that the law and all that it calls make is longer than what came in: it says more and counts as full. Else prove '..UptoSaid'. A law counts once. -/
mutual
def uptoBulk {H : Type} : DataW H → Nat
  | .lit (.string bytes) => bytes.length + 1
  | .lit _ => 1
  | .nil => 1
  | .ptr d => uptoBulk d + 1
  | .slice elems spare => uptoBulkAll elems + uptoBulkAll spare + 1
  | .agg parts => uptoBulkAll parts + 1
  | .iface _ d => uptoBulk d + 1
  | .map entries => uptoBulkEntries entries + 1
  | .held _ => 1
def uptoBulkAll {H : Type} : List (DataW H) → Nat
  | [] => 0
  | d :: r => uptoBulk d + uptoBulkAll r
def uptoBulkEntries {H : Type} : List (Lit × DataW H) → Nat
  | [] => 0
  | x :: r => uptoBulkEntry x + uptoBulkEntries r
def uptoBulkEntry {H : Type} : Lit × DataW H → Nat
  | (.string bytes, d) => bytes.length + uptoBulk d + 1
  | (_, d) => uptoBulk d + 1
 end
def uptoSmall : (H : Type) → List (DataW H) → Bool := fun _ ds => decide (uptoBulkAll ds ≤ 1048576)
def OpenSpec.upto (s : _root_.Go.ChangeSpec) : _root_.Go.OpenSpec := { _root_.Go.OpenSpec.ofChange s with cond := some uptoSmall }

/-- 'laws.FnExactStepLengths', WHERE WHAT IT READS IS OF BULK AT MOST 1048576: true; the input reads as it did. -/
def fnExactStepLengthsUptoRow : OpenClaim := { program := "ytjeabpbpoomlmaa", sum := "1c6303eb3e214ce46102d10838169e4303751aaa46b3dd9ad61ef1e18eae1e83", func := "loop.example/panecutter/laws.FnExactStepLengths", spec := "fnExactStepLengths", unfollowed := true, recurses := true, loops := true, apart := false, narrowed := true }
def FnExactStepLengthsUptoSaid : Prop := fnExactStepLengthsUptoRow.holds Try.pinned (OpenSpec.upto fnExactStepLengthsSpec)

/-- 'laws.FnExactCutLengths', WHERE WHAT IT READS IS OF BULK AT MOST 1048576: true; the input reads as it did. -/
def fnExactCutLengthsUptoRow : OpenClaim := { program := "ytjeabpbpoomlmaa", sum := "1c6303eb3e214ce46102d10838169e4303751aaa46b3dd9ad61ef1e18eae1e83", func := "loop.example/panecutter/laws.FnExactCutLengths", spec := "fnExactCutLengths", recurses := true, loops := true, apart := false, narrowed := true }
def FnExactCutLengthsUptoSaid : Prop := fnExactCutLengthsUptoRow.holds Try.pinned (OpenSpec.upto fnExactCutLengthsSpec)

/-- 'laws.FnExactUsedOf', WHERE WHAT IT READS IS OF BULK AT MOST 1048576: true; the input reads as it did. -/
def fnExactUsedOfUptoRow : OpenClaim := { program := "ytjeabpbpoomlmaa", sum := "1c6303eb3e214ce46102d10838169e4303751aaa46b3dd9ad61ef1e18eae1e83", func := "loop.example/panecutter/laws.FnExactUsedOf", spec := "fnExactUsedOf", recurses := true, loops := true, apart := false, narrowed := true }
def FnExactUsedOfUptoSaid : Prop := fnExactUsedOfUptoRow.holds Try.pinned (OpenSpec.upto fnExactUsedOfSpec)

/-- 'laws.FnExactWastesOf', WHERE WHAT IT READS IS OF BULK AT MOST 1048576: true; the input reads as it did. -/
def fnExactWastesOfUptoRow : OpenClaim := { program := "ytjeabpbpoomlmaa", sum := "1c6303eb3e214ce46102d10838169e4303751aaa46b3dd9ad61ef1e18eae1e83", func := "loop.example/panecutter/laws.FnExactWastesOf", spec := "fnExactWastesOf", recurses := true, loops := true, apart := false, narrowed := true }
def FnExactWastesOfUptoSaid : Prop := fnExactWastesOfUptoRow.holds Try.pinned (OpenSpec.upto fnExactWastesOfSpec)

/-- 'laws.FnExactPlacesOf', WHERE WHAT IT READS IS OF BULK AT MOST 1048576: true; the input reads as it did. -/
def fnExactPlacesOfUptoRow : OpenClaim := { program := "ytjeabpbpoomlmaa", sum := "1c6303eb3e214ce46102d10838169e4303751aaa46b3dd9ad61ef1e18eae1e83", func := "loop.example/panecutter/laws.FnExactPlacesOf", spec := "fnExactPlacesOf", recurses := true, loops := true, apart := false, narrowed := true }
def FnExactPlacesOfUptoSaid : Prop := fnExactPlacesOfUptoRow.holds Try.pinned (OpenSpec.upto fnExactPlacesOfSpec)

/-- 'laws.FnExactMirrorPlan', WHERE WHAT IT READS IS OF BULK AT MOST 1048576: true; the input reads as it did. -/
def fnExactMirrorPlanUptoRow : OpenClaim := { program := "ytjeabpbpoomlmaa", sum := "1c6303eb3e214ce46102d10838169e4303751aaa46b3dd9ad61ef1e18eae1e83", func := "loop.example/panecutter/laws.FnExactMirrorPlan", spec := "fnExactMirrorPlan", recurses := true, loops := true, apart := false, narrowed := true }
def FnExactMirrorPlanUptoSaid : Prop := fnExactMirrorPlanUptoRow.holds Try.pinned (OpenSpec.upto fnExactMirrorPlanSpec)

/-- 'laws.FnExactTransposePlan', WHERE WHAT IT READS IS OF BULK AT MOST 1048576: true; the input reads as it did. -/
def fnExactTransposePlanUptoRow : OpenClaim := { program := "ytjeabpbpoomlmaa", sum := "1c6303eb3e214ce46102d10838169e4303751aaa46b3dd9ad61ef1e18eae1e83", func := "loop.example/panecutter/laws.FnExactTransposePlan", spec := "fnExactTransposePlan", recurses := true, loops := true, apart := false, narrowed := true }
def FnExactTransposePlanUptoSaid : Prop := fnExactTransposePlanUptoRow.holds Try.pinned (OpenSpec.upto fnExactTransposePlanSpec)

/-- 'laws.FnStepLengths', WHERE WHAT IT READS IS OF BULK AT MOST 1048576: true; the input reads as it did. -/
def fnStepLengthsUptoRow : OpenClaim := { program := "ytjeabpbpoomlmaa", sum := "1c6303eb3e214ce46102d10838169e4303751aaa46b3dd9ad61ef1e18eae1e83", func := "loop.example/panecutter/laws.FnStepLengths", spec := "fnStepLengths", unfollowed := true, recurses := true, apart := false, narrowed := true }
def FnStepLengthsUptoSaid : Prop := fnStepLengthsUptoRow.holds Try.pinned (OpenSpec.upto fnStepLengthsSpec)

/-- 'laws.FnGoodPlan', WHERE WHAT IT READS IS OF BULK AT MOST 1048576: true; the input reads as it did. -/
def fnGoodPlanUptoRow : OpenClaim := { program := "ytjeabpbpoomlmaa", sum := "1c6303eb3e214ce46102d10838169e4303751aaa46b3dd9ad61ef1e18eae1e83", func := "loop.example/panecutter/laws.FnGoodPlan", spec := "fnGoodPlan", recurses := true, apart := false, narrowed := true }
def FnGoodPlanUptoSaid : Prop := fnGoodPlanUptoRow.holds Try.pinned (OpenSpec.upto fnGoodPlanSpec)

/-- 'laws.FnSamePlaces', WHERE WHAT IT READS IS OF BULK AT MOST 1048576: true; the input reads as it did. -/
def fnSamePlacesUptoRow : OpenClaim := { program := "ytjeabpbpoomlmaa", sum := "1c6303eb3e214ce46102d10838169e4303751aaa46b3dd9ad61ef1e18eae1e83", func := "loop.example/panecutter/laws.FnSamePlaces", spec := "fnSamePlaces", recurses := true, apart := false, narrowed := true }
def FnSamePlacesUptoSaid : Prop := fnSamePlacesUptoRow.holds Try.pinned (OpenSpec.upto fnSamePlacesSpec)

/-- 'laws.FnRunSteps', WHERE WHAT IT READS IS OF BULK AT MOST 1048576: true; the input reads as it did. -/
def fnRunStepsUptoRow : OpenClaim := { program := "ytjeabpbpoomlmaa", sum := "1c6303eb3e214ce46102d10838169e4303751aaa46b3dd9ad61ef1e18eae1e83", func := "loop.example/panecutter/laws.FnRunSteps", spec := "fnRunSteps", unfollowed := true, recurses := true, apart := false, narrowed := true }
def FnRunStepsUptoSaid : Prop := fnRunStepsUptoRow.holds Try.pinned (OpenSpec.upto fnRunStepsSpec)

/-- 'laws.FnRunStepsParts', WHERE WHAT IT READS IS OF BULK AT MOST 1048576: true; the input reads as it did. -/
def fnRunStepsPartsUptoRow : OpenClaim := { program := "ytjeabpbpoomlmaa", sum := "1c6303eb3e214ce46102d10838169e4303751aaa46b3dd9ad61ef1e18eae1e83", func := "loop.example/panecutter/laws.FnRunStepsParts", spec := "fnRunStepsParts", unfollowed := true, recurses := true, apart := false, narrowed := true }
def FnRunStepsPartsUptoSaid : Prop := fnRunStepsPartsUptoRow.holds Try.pinned (OpenSpec.upto fnRunStepsPartsSpec)

end Rows
end Go.Proofs.Ytjeabpbpoomlmaa
