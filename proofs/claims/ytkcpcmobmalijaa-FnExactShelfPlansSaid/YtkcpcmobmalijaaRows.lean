/-
  No cell of these rows narrows 'for every input' (looked for: loops, veiled, ifaces, maps, wideKeys, modest, calm, conditions, laid).
  DERIVED. THE GIVEN ROWS OF THIS SEAT. 10 by the template 'for every input the law returns true; each argument reads behind the call as it read before'; 0 by the template 'total and deterministic' (their statements: YtkcpcmobmalijaaTotals.lean).
  GIVEN WITH THE SEED: the statements are not yours to turn. If you find one false, say at which input.
  Laid BY PROGRAM, IN A SANDBOX (cutbox-rows.mjs): the forced cells as the released guide's own fill.sh prints them over the translation 1ea4f1d93c98b4da… (all of the seat's roots in one cut). By AI agents, Wed Nov 11 2026. No macro, syntax, notation, axiom, sorry.
-/
import Derived.Test.YtkcpcmobmalijaaChecked
import GoSem.Claim
import GoSem.ClaimJoined
import GoSem.ClaimMapViews
import Derived.JoinedTies
import Derived.KernelRfl
namespace Go.Proofs.Ytkcpcmobmalijaa
/- THE CELL 'sum', in the pinned program and in every row, IS THE sha256 OF THE DUMP (.gsa) THAT YtkcpcmobmalijaaProg.lean LOADS. Nothing in Lean hashes anything: it is a label: what it is worth is what the hold of that sum in a sandbox is worth. -/
noncomputable def Try.pinned : Pinned := { name := "ytkcpcmobmalijaa", sum := "1ea4f1d93c98b4da2ea529405d3572609c40a4d0a1701cea0ddd54b1aa694fcb", checked := Try.checked }
namespace Rows
def none {H : Type} : Left H := { results := [], args := [] }

/-- 'laws.FnBestPlan': WHATEVER THE INPUT: true; the input reads as it did. -/
def fnBestPlanSpec : ChangeSpec := { name := "fnBestPlan", fn := fun _ => fun
  | [d] => { results := [.lit (.bool true)], args := [d] }
  | _ => none }
def fnBestPlanRow : OpenClaim := { program := "ytkcpcmobmalijaa", sum := "1ea4f1d93c98b4da2ea529405d3572609c40a4d0a1701cea0ddd54b1aa694fcb", func := "loop.example/panecutter/laws.FnBestPlan", spec := "fnBestPlan", recurses := true, apart := false }
def FnBestPlanSaid : Prop := fnBestPlanRow.holds Try.pinned (OpenSpec.ofChange fnBestPlanSpec)

/-- ITS FALSE NEIGHBOUR: 'it returns false'. Refute it at one input. -/
def fnBestPlanWrong : ChangeSpec := { name := "fnBestPlan", fn := fun _ => fun
  | [d] => { results := [.lit (.bool false)], args := [d] }
  | _ => none }
def FnBestPlanWrongFalsely : Prop := fnBestPlanRow.holds Try.pinned (OpenSpec.ofChange fnBestPlanWrong)

/-- 'laws.FnExactBestPlan': WHATEVER THE INPUT: true; the input reads as it did. -/
def fnExactBestPlanSpec : ChangeSpec := { name := "fnExactBestPlan", fn := fun _ => fun
  | [d1, d2] => { results := [.lit (.bool true)], args := [d1, d2] }
  | _ => none }
def fnExactBestPlanRow : OpenClaim := { program := "ytkcpcmobmalijaa", sum := "1ea4f1d93c98b4da2ea529405d3572609c40a4d0a1701cea0ddd54b1aa694fcb", func := "loop.example/panecutter/laws.FnExactBestPlan", spec := "fnExactBestPlan", recurses := true, apart := false }
def FnExactBestPlanSaid : Prop := fnExactBestPlanRow.holds Try.pinned (OpenSpec.ofChange fnExactBestPlanSpec)

/-- ITS FALSE NEIGHBOUR: 'it returns false'. Refute it at one input. -/
def fnExactBestPlanWrong : ChangeSpec := { name := "fnExactBestPlan", fn := fun _ => fun
  | [d1, d2] => { results := [.lit (.bool false)], args := [d1, d2] }
  | _ => none }
def FnExactBestPlanWrongFalsely : Prop := fnExactBestPlanRow.holds Try.pinned (OpenSpec.ofChange fnExactBestPlanWrong)

/-- 'laws.FnShelfPlans': WHATEVER THE INPUT: true; the input reads as it did. -/
def fnShelfPlansSpec : ChangeSpec := { name := "fnShelfPlans", fn := fun _ => fun
  | [d] => { results := [.lit (.bool true)], args := [d] }
  | _ => none }
def fnShelfPlansRow : OpenClaim := { program := "ytkcpcmobmalijaa", sum := "1ea4f1d93c98b4da2ea529405d3572609c40a4d0a1701cea0ddd54b1aa694fcb", func := "loop.example/panecutter/laws.FnShelfPlans", spec := "fnShelfPlans", unfollowed := true, recurses := true, apart := false }
def FnShelfPlansSaid : Prop := fnShelfPlansRow.holds Try.pinned (OpenSpec.ofChange fnShelfPlansSpec)

/-- ITS FALSE NEIGHBOUR: 'it returns false'. Refute it at one input. -/
def fnShelfPlansWrong : ChangeSpec := { name := "fnShelfPlans", fn := fun _ => fun
  | [d] => { results := [.lit (.bool false)], args := [d] }
  | _ => none }
def FnShelfPlansWrongFalsely : Prop := fnShelfPlansRow.holds Try.pinned (OpenSpec.ofChange fnShelfPlansWrong)

/-- 'laws.FnExactShelfPlans': WHATEVER THE INPUT: true; the input reads as it did. -/
def fnExactShelfPlansSpec : ChangeSpec := { name := "fnExactShelfPlans", fn := fun _ => fun
  | [d] => { results := [.lit (.bool true)], args := [d] }
  | _ => none }
def fnExactShelfPlansRow : OpenClaim := { program := "ytkcpcmobmalijaa", sum := "1ea4f1d93c98b4da2ea529405d3572609c40a4d0a1701cea0ddd54b1aa694fcb", func := "loop.example/panecutter/laws.FnExactShelfPlans", spec := "fnExactShelfPlans", unfollowed := true, recurses := true, apart := false }
def FnExactShelfPlansSaid : Prop := fnExactShelfPlansRow.holds Try.pinned (OpenSpec.ofChange fnExactShelfPlansSpec)

/-- ITS FALSE NEIGHBOUR: 'it returns false'. Refute it at one input. -/
def fnExactShelfPlansWrong : ChangeSpec := { name := "fnExactShelfPlans", fn := fun _ => fun
  | [d] => { results := [.lit (.bool false)], args := [d] }
  | _ => none }
def FnExactShelfPlansWrongFalsely : Prop := fnExactShelfPlansRow.holds Try.pinned (OpenSpec.ofChange fnExactShelfPlansWrong)

/-- 'laws.FnFewestSheets': WHATEVER THE INPUT: true; the input reads as it did. -/
def fnFewestSheetsSpec : ChangeSpec := { name := "fnFewestSheets", fn := fun _ => fun
  | [d] => { results := [.lit (.bool true)], args := [d] }
  | _ => none }
def fnFewestSheetsRow : OpenClaim := { program := "ytkcpcmobmalijaa", sum := "1ea4f1d93c98b4da2ea529405d3572609c40a4d0a1701cea0ddd54b1aa694fcb", func := "loop.example/panecutter/laws.FnFewestSheets", spec := "fnFewestSheets", unfollowed := true, recurses := true, apart := false }
def FnFewestSheetsSaid : Prop := fnFewestSheetsRow.holds Try.pinned (OpenSpec.ofChange fnFewestSheetsSpec)

/-- ITS FALSE NEIGHBOUR: 'it returns false'. Refute it at one input. -/
def fnFewestSheetsWrong : ChangeSpec := { name := "fnFewestSheets", fn := fun _ => fun
  | [d] => { results := [.lit (.bool false)], args := [d] }
  | _ => none }
def FnFewestSheetsWrongFalsely : Prop := fnFewestSheetsRow.holds Try.pinned (OpenSpec.ofChange fnFewestSheetsWrong)

/-- 'laws.FnFewestBarsShelf': WHATEVER THE INPUT: true; the input reads as it did. -/
def fnFewestBarsShelfSpec : ChangeSpec := { name := "fnFewestBarsShelf", fn := fun _ => fun
  | [d] => { results := [.lit (.bool true)], args := [d] }
  | _ => none }
def fnFewestBarsShelfRow : OpenClaim := { program := "ytkcpcmobmalijaa", sum := "1ea4f1d93c98b4da2ea529405d3572609c40a4d0a1701cea0ddd54b1aa694fcb", func := "loop.example/panecutter/laws.FnFewestBarsShelf", spec := "fnFewestBarsShelf", unfollowed := true, recurses := true, apart := false }
def FnFewestBarsShelfSaid : Prop := fnFewestBarsShelfRow.holds Try.pinned (OpenSpec.ofChange fnFewestBarsShelfSpec)

/-- ITS FALSE NEIGHBOUR: 'it returns false'. Refute it at one input. -/
def fnFewestBarsShelfWrong : ChangeSpec := { name := "fnFewestBarsShelf", fn := fun _ => fun
  | [d] => { results := [.lit (.bool false)], args := [d] }
  | _ => none }
def FnFewestBarsShelfWrongFalsely : Prop := fnFewestBarsShelfRow.holds Try.pinned (OpenSpec.ofChange fnFewestBarsShelfWrong)

/-- 'laws.FnAreaBound': WHATEVER THE INPUT: true; the input reads as it did. -/
def fnAreaBoundSpec : ChangeSpec := { name := "fnAreaBound", fn := fun _ => fun
  | [d] => { results := [.lit (.bool true)], args := [d] }
  | _ => none }
def fnAreaBoundRow : OpenClaim := { program := "ytkcpcmobmalijaa", sum := "1ea4f1d93c98b4da2ea529405d3572609c40a4d0a1701cea0ddd54b1aa694fcb", func := "loop.example/panecutter/laws.FnAreaBound", spec := "fnAreaBound", unfollowed := true, recurses := true, apart := false }
def FnAreaBoundSaid : Prop := fnAreaBoundRow.holds Try.pinned (OpenSpec.ofChange fnAreaBoundSpec)

/-- ITS FALSE NEIGHBOUR: 'it returns false'. Refute it at one input. -/
def fnAreaBoundWrong : ChangeSpec := { name := "fnAreaBound", fn := fun _ => fun
  | [d] => { results := [.lit (.bool false)], args := [d] }
  | _ => none }
def FnAreaBoundWrongFalsely : Prop := fnAreaBoundRow.holds Try.pinned (OpenSpec.ofChange fnAreaBoundWrong)

/-- 'laws.FnScaleBound': WHATEVER THE INPUT: true; the input reads as it did. -/
def fnScaleBoundSpec : ChangeSpec := { name := "fnScaleBound", fn := fun _ => fun
  | [d] => { results := [.lit (.bool true)], args := [d] }
  | _ => none }
def fnScaleBoundRow : OpenClaim := { program := "ytkcpcmobmalijaa", sum := "1ea4f1d93c98b4da2ea529405d3572609c40a4d0a1701cea0ddd54b1aa694fcb", func := "loop.example/panecutter/laws.FnScaleBound", spec := "fnScaleBound", unfollowed := true, recurses := true, apart := false }
def FnScaleBoundSaid : Prop := fnScaleBoundRow.holds Try.pinned (OpenSpec.ofChange fnScaleBoundSpec)

/-- ITS FALSE NEIGHBOUR: 'it returns false'. Refute it at one input. -/
def fnScaleBoundWrong : ChangeSpec := { name := "fnScaleBound", fn := fun _ => fun
  | [d] => { results := [.lit (.bool false)], args := [d] }
  | _ => none }
def FnScaleBoundWrongFalsely : Prop := fnScaleBoundRow.holds Try.pinned (OpenSpec.ofChange fnScaleBoundWrong)

/-- 'laws.FnRunSteps': WHATEVER THE INPUT: true; the input reads as it did. -/
def fnRunStepsSpec : ChangeSpec := { name := "fnRunSteps", fn := fun _ => fun
  | [d] => { results := [.lit (.bool true)], args := [d] }
  | _ => none }
def fnRunStepsRow : OpenClaim := { program := "ytkcpcmobmalijaa", sum := "1ea4f1d93c98b4da2ea529405d3572609c40a4d0a1701cea0ddd54b1aa694fcb", func := "loop.example/panecutter/laws.FnRunSteps", spec := "fnRunSteps", unfollowed := true, recurses := true, apart := false }
def FnRunStepsSaid : Prop := fnRunStepsRow.holds Try.pinned (OpenSpec.ofChange fnRunStepsSpec)

/-- ITS FALSE NEIGHBOUR: 'it returns false'. Refute it at one input. -/
def fnRunStepsWrong : ChangeSpec := { name := "fnRunSteps", fn := fun _ => fun
  | [d] => { results := [.lit (.bool false)], args := [d] }
  | _ => none }
def FnRunStepsWrongFalsely : Prop := fnRunStepsRow.holds Try.pinned (OpenSpec.ofChange fnRunStepsWrong)

/-- 'laws.FnRunStepsParts': WHATEVER THE INPUT: true; the input reads as it did. -/
def fnRunStepsPartsSpec : ChangeSpec := { name := "fnRunStepsParts", fn := fun _ => fun
  | [d] => { results := [.lit (.bool true)], args := [d] }
  | _ => none }
def fnRunStepsPartsRow : OpenClaim := { program := "ytkcpcmobmalijaa", sum := "1ea4f1d93c98b4da2ea529405d3572609c40a4d0a1701cea0ddd54b1aa694fcb", func := "loop.example/panecutter/laws.FnRunStepsParts", spec := "fnRunStepsParts", unfollowed := true, recurses := true, apart := false }
def FnRunStepsPartsSaid : Prop := fnRunStepsPartsRow.holds Try.pinned (OpenSpec.ofChange fnRunStepsPartsSpec)

/-- ITS FALSE NEIGHBOUR: 'it returns false'. Refute it at one input. -/
def fnRunStepsPartsWrong : ChangeSpec := { name := "fnRunStepsParts", fn := fun _ => fun
  | [d] => { results := [.lit (.bool false)], args := [d] }
  | _ => none }
def FnRunStepsPartsWrongFalsely : Prop := fnRunStepsPartsRow.holds Try.pinned (OpenSpec.ofChange fnRunStepsPartsWrong)

/- THE SECOND FORM. 'bulk': how many values and letters a reading holds, each counted each time it is reached (what is shared counts as often as it is met; a slice's spare places count too). A statement '..UptoSaid' is the law's where the arguments, and the package variables that the reading takes, are together of bulk at most 1048576: NARROWER than '..Said'. Prove '..Said' where nothing that the law and all that it calls make is longer than what came in: it says more and counts as full. Else prove '..UptoSaid'. A law counts once. -/
mutual
def uptoBulk {H : Type} : DataW H → Nat
  | .lit (.string bytes) => bytes.length + 1
  | .lit _ => 1
  | .nil => 1
  | .ptr d => uptoBulk d + 1
  | .slice elems spare => uptoBulkAll elems + uptoBulkAll spare + 1
  | .agg parts => uptoBulkAll parts + 1
  | .iface _ d => uptoBulk d + 1
  | .map entries => uptoBulkEntries entries + 1
  | .held _ => 1
def uptoBulkAll {H : Type} : List (DataW H) → Nat
  | [] => 0
  | d :: r => uptoBulk d + uptoBulkAll r
def uptoBulkEntries {H : Type} : List (Lit × DataW H) → Nat
  | [] => 0
  | x :: r => uptoBulkEntry x + uptoBulkEntries r
def uptoBulkEntry {H : Type} : Lit × DataW H → Nat
  | (.string bytes, d) => bytes.length + uptoBulk d + 1
  | (_, d) => uptoBulk d + 1
 end
def uptoSmall : (H : Type) → List (DataW H) → Bool := fun _ ds => decide (uptoBulkAll ds ≤ 1048576)
def OpenSpec.upto (s : _root_.Go.ChangeSpec) : _root_.Go.OpenSpec := { _root_.Go.OpenSpec.ofChange s with cond := some uptoSmall }

/-- 'laws.FnBestPlan', WHERE WHAT IT READS IS OF BULK AT MOST 1048576: true; the input reads as it did. -/
def fnBestPlanUptoRow : OpenClaim := { program := "ytkcpcmobmalijaa", sum := "1ea4f1d93c98b4da2ea529405d3572609c40a4d0a1701cea0ddd54b1aa694fcb", func := "loop.example/panecutter/laws.FnBestPlan", spec := "fnBestPlan", recurses := true, apart := false, narrowed := true }
def FnBestPlanUptoSaid : Prop := fnBestPlanUptoRow.holds Try.pinned (OpenSpec.upto fnBestPlanSpec)

/-- 'laws.FnExactBestPlan', WHERE WHAT IT READS IS OF BULK AT MOST 1048576: true; the input reads as it did. -/
def fnExactBestPlanUptoRow : OpenClaim := { program := "ytkcpcmobmalijaa", sum := "1ea4f1d93c98b4da2ea529405d3572609c40a4d0a1701cea0ddd54b1aa694fcb", func := "loop.example/panecutter/laws.FnExactBestPlan", spec := "fnExactBestPlan", recurses := true, apart := false, narrowed := true }
def FnExactBestPlanUptoSaid : Prop := fnExactBestPlanUptoRow.holds Try.pinned (OpenSpec.upto fnExactBestPlanSpec)

/-- 'laws.FnShelfPlans', WHERE WHAT IT READS IS OF BULK AT MOST 1048576: true; the input reads as it did. -/
def fnShelfPlansUptoRow : OpenClaim := { program := "ytkcpcmobmalijaa", sum := "1ea4f1d93c98b4da2ea529405d3572609c40a4d0a1701cea0ddd54b1aa694fcb", func := "loop.example/panecutter/laws.FnShelfPlans", spec := "fnShelfPlans", unfollowed := true, recurses := true, apart := false, narrowed := true }
def FnShelfPlansUptoSaid : Prop := fnShelfPlansUptoRow.holds Try.pinned (OpenSpec.upto fnShelfPlansSpec)

/-- 'laws.FnExactShelfPlans', WHERE WHAT IT READS IS OF BULK AT MOST 1048576: true; the input reads as it did. -/
def fnExactShelfPlansUptoRow : OpenClaim := { program := "ytkcpcmobmalijaa", sum := "1ea4f1d93c98b4da2ea529405d3572609c40a4d0a1701cea0ddd54b1aa694fcb", func := "loop.example/panecutter/laws.FnExactShelfPlans", spec := "fnExactShelfPlans", unfollowed := true, recurses := true, apart := false, narrowed := true }
def FnExactShelfPlansUptoSaid : Prop := fnExactShelfPlansUptoRow.holds Try.pinned (OpenSpec.upto fnExactShelfPlansSpec)

/-- 'laws.FnFewestSheets', WHERE WHAT IT READS IS OF BULK AT MOST 1048576: true; the input reads as it did. -/
def fnFewestSheetsUptoRow : OpenClaim := { program := "ytkcpcmobmalijaa", sum := "1ea4f1d93c98b4da2ea529405d3572609c40a4d0a1701cea0ddd54b1aa694fcb", func := "loop.example/panecutter/laws.FnFewestSheets", spec := "fnFewestSheets", unfollowed := true, recurses := true, apart := false, narrowed := true }
def FnFewestSheetsUptoSaid : Prop := fnFewestSheetsUptoRow.holds Try.pinned (OpenSpec.upto fnFewestSheetsSpec)

/-- 'laws.FnFewestBarsShelf', WHERE WHAT IT READS IS OF BULK AT MOST 1048576: true; the input reads as it did. -/
def fnFewestBarsShelfUptoRow : OpenClaim := { program := "ytkcpcmobmalijaa", sum := "1ea4f1d93c98b4da2ea529405d3572609c40a4d0a1701cea0ddd54b1aa694fcb", func := "loop.example/panecutter/laws.FnFewestBarsShelf", spec := "fnFewestBarsShelf", unfollowed := true, recurses := true, apart := false, narrowed := true }
def FnFewestBarsShelfUptoSaid : Prop := fnFewestBarsShelfUptoRow.holds Try.pinned (OpenSpec.upto fnFewestBarsShelfSpec)

/-- 'laws.FnAreaBound', WHERE WHAT IT READS IS OF BULK AT MOST 1048576: true; the input reads as it did. -/
def fnAreaBoundUptoRow : OpenClaim := { program := "ytkcpcmobmalijaa", sum := "1ea4f1d93c98b4da2ea529405d3572609c40a4d0a1701cea0ddd54b1aa694fcb", func := "loop.example/panecutter/laws.FnAreaBound", spec := "fnAreaBound", unfollowed := true, recurses := true, apart := false, narrowed := true }
def FnAreaBoundUptoSaid : Prop := fnAreaBoundUptoRow.holds Try.pinned (OpenSpec.upto fnAreaBoundSpec)

/-- 'laws.FnScaleBound', WHERE WHAT IT READS IS OF BULK AT MOST 1048576: true; the input reads as it did. -/
def fnScaleBoundUptoRow : OpenClaim := { program := "ytkcpcmobmalijaa", sum := "1ea4f1d93c98b4da2ea529405d3572609c40a4d0a1701cea0ddd54b1aa694fcb", func := "loop.example/panecutter/laws.FnScaleBound", spec := "fnScaleBound", unfollowed := true, recurses := true, apart := false, narrowed := true }
def FnScaleBoundUptoSaid : Prop := fnScaleBoundUptoRow.holds Try.pinned (OpenSpec.upto fnScaleBoundSpec)

/-- 'laws.FnRunSteps', WHERE WHAT IT READS IS OF BULK AT MOST 1048576: true; the input reads as it did. -/
def fnRunStepsUptoRow : OpenClaim := { program := "ytkcpcmobmalijaa", sum := "1ea4f1d93c98b4da2ea529405d3572609c40a4d0a1701cea0ddd54b1aa694fcb", func := "loop.example/panecutter/laws.FnRunSteps", spec := "fnRunSteps", unfollowed := true, recurses := true, apart := false, narrowed := true }
def FnRunStepsUptoSaid : Prop := fnRunStepsUptoRow.holds Try.pinned (OpenSpec.upto fnRunStepsSpec)

/-- 'laws.FnRunStepsParts', WHERE WHAT IT READS IS OF BULK AT MOST 1048576: true; the input reads as it did. -/
def fnRunStepsPartsUptoRow : OpenClaim := { program := "ytkcpcmobmalijaa", sum := "1ea4f1d93c98b4da2ea529405d3572609c40a4d0a1701cea0ddd54b1aa694fcb", func := "loop.example/panecutter/laws.FnRunStepsParts", spec := "fnRunStepsParts", unfollowed := true, recurses := true, apart := false, narrowed := true }
def FnRunStepsPartsUptoSaid : Prop := fnRunStepsPartsUptoRow.holds Try.pinned (OpenSpec.upto fnRunStepsPartsSpec)

end Rows
end Go.Proofs.Ytkcpcmobmalijaa
