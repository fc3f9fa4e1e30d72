/-
  No cell of these rows narrows 'for every input' (looked for: loops, veiled, ifaces, maps, wideKeys, modest, calm, conditions, laid).
  DERIVED. THE GIVEN ROWS OF THIS SEAT. 12 by the template 'for every input the law returns true; each argument reads behind the call as it read before'; 0 by the template 'total and deterministic' (their statements: YtncjnchmmagkkaaTotals.lean).
  GIVEN WITH THE SEED: the statements are not yours to turn. If you find one false, say at which input.
  Laid BY PROGRAM, IN A SANDBOX (cutbox-rows.mjs): the forced cells as the released guide's own fill.sh prints them over the translation 868fa9a4b7a7ed84… (all of the seat's roots in one cut). By AI agents, Wed Nov 11 2026. No macro, syntax, notation, axiom, sorry.
-/
import Derived.Test.YtncjnchmmagkkaaChecked
import GoSem.Claim
import GoSem.ClaimJoined
import GoSem.ClaimMapViews
import Derived.JoinedTies
import Derived.KernelRfl
namespace Go.Proofs.Ytncjnchmmagkkaa
/- THE CELL 'sum', in the pinned program and in every row, IS THE sha256 OF THE DUMP (.gsa) THAT YtncjnchmmagkkaaProg.lean LOADS. Nothing in Lean hashes anything: it is a label: what it is worth is what the hold of that sum in a sandbox is worth. -/
noncomputable def Try.pinned : Pinned := { name := "ytncjnchmmagkkaa", sum := "868fa9a4b7a7ed8467eb78a7220ffe48daf8da9128490162f12d22243b0be5df", checked := Try.checked }
namespace Rows
def none {H : Type} : Left H := { results := [], args := [] }

/-- 'laws.FnSpanOf': WHATEVER THE INPUT: true; the input reads as it did. -/
def fnSpanOfSpec : ChangeSpec := { name := "fnSpanOf", fn := fun _ => fun
  | [d] => { results := [.lit (.bool true)], args := [d] }
  | _ => none }
def fnSpanOfRow : OpenClaim := { program := "ytncjnchmmagkkaa", sum := "868fa9a4b7a7ed8467eb78a7220ffe48daf8da9128490162f12d22243b0be5df", func := "loop.example/panecutter/laws.FnSpanOf", spec := "fnSpanOf", unfollowed := true, recurses := true, apart := false }
def FnSpanOfSaid : Prop := fnSpanOfRow.holds Try.pinned (OpenSpec.ofChange fnSpanOfSpec)

/-- ITS FALSE NEIGHBOUR: 'it returns false'. Refute it at one input. -/
def fnSpanOfWrong : ChangeSpec := { name := "fnSpanOf", fn := fun _ => fun
  | [d] => { results := [.lit (.bool false)], args := [d] }
  | _ => none }
def FnSpanOfWrongFalsely : Prop := fnSpanOfRow.holds Try.pinned (OpenSpec.ofChange fnSpanOfWrong)

/-- 'laws.FnPassBuffer': WHATEVER THE INPUT: true; the input reads as it did. -/
def fnPassBufferSpec : ChangeSpec := { name := "fnPassBuffer", fn := fun _ => fun
  | [d] => { results := [.lit (.bool true)], args := [d] }
  | _ => none }
def fnPassBufferRow : OpenClaim := { program := "ytncjnchmmagkkaa", sum := "868fa9a4b7a7ed8467eb78a7220ffe48daf8da9128490162f12d22243b0be5df", func := "loop.example/panecutter/laws.FnPassBuffer", spec := "fnPassBuffer", recurses := true, apart := false }
def FnPassBufferSaid : Prop := fnPassBufferRow.holds Try.pinned (OpenSpec.ofChange fnPassBufferSpec)

/-- ITS FALSE NEIGHBOUR: 'it returns false'. Refute it at one input. -/
def fnPassBufferWrong : ChangeSpec := { name := "fnPassBuffer", fn := fun _ => fun
  | [d] => { results := [.lit (.bool false)], args := [d] }
  | _ => none }
def FnPassBufferWrongFalsely : Prop := fnPassBufferRow.holds Try.pinned (OpenSpec.ofChange fnPassBufferWrong)

/-- 'laws.FnPassBufferEnough': WHATEVER THE INPUT: true; the input reads as it did. -/
def fnPassBufferEnoughSpec : ChangeSpec := { name := "fnPassBufferEnough", fn := fun _ => fun
  | [d] => { results := [.lit (.bool true)], args := [d] }
  | _ => none }
def fnPassBufferEnoughRow : OpenClaim := { program := "ytncjnchmmagkkaa", sum := "868fa9a4b7a7ed8467eb78a7220ffe48daf8da9128490162f12d22243b0be5df", func := "loop.example/panecutter/laws.FnPassBufferEnough", spec := "fnPassBufferEnough", recurses := true, apart := false }
def FnPassBufferEnoughSaid : Prop := fnPassBufferEnoughRow.holds Try.pinned (OpenSpec.ofChange fnPassBufferEnoughSpec)

/-- ITS FALSE NEIGHBOUR: 'it returns false'. Refute it at one input. -/
def fnPassBufferEnoughWrong : ChangeSpec := { name := "fnPassBufferEnough", fn := fun _ => fun
  | [d] => { results := [.lit (.bool false)], args := [d] }
  | _ => none }
def FnPassBufferEnoughWrongFalsely : Prop := fnPassBufferEnoughRow.holds Try.pinned (OpenSpec.ofChange fnPassBufferEnoughWrong)

/-- 'laws.FnBufferFor': WHATEVER THE INPUT: true; the input reads as it did. -/
def fnBufferForSpec : ChangeSpec := { name := "fnBufferFor", fn := fun _ => fun
  | [d] => { results := [.lit (.bool true)], args := [d] }
  | _ => none }
def fnBufferForRow : OpenClaim := { program := "ytncjnchmmagkkaa", sum := "868fa9a4b7a7ed8467eb78a7220ffe48daf8da9128490162f12d22243b0be5df", func := "loop.example/panecutter/laws.FnBufferFor", spec := "fnBufferFor", recurses := true, apart := false }
def FnBufferForSaid : Prop := fnBufferForRow.holds Try.pinned (OpenSpec.ofChange fnBufferForSpec)

/-- ITS FALSE NEIGHBOUR: 'it returns false'. Refute it at one input. -/
def fnBufferForWrong : ChangeSpec := { name := "fnBufferFor", fn := fun _ => fun
  | [d] => { results := [.lit (.bool false)], args := [d] }
  | _ => none }
def FnBufferForWrongFalsely : Prop := fnBufferForRow.holds Try.pinned (OpenSpec.ofChange fnBufferForWrong)

/-- 'laws.FnExactBufferFor': WHATEVER THE INPUT: true; the input reads as it did. -/
def fnExactBufferForSpec : ChangeSpec := { name := "fnExactBufferFor", fn := fun _ => fun
  | [d] => { results := [.lit (.bool true)], args := [d] }
  | _ => none }
def fnExactBufferForRow : OpenClaim := { program := "ytncjnchmmagkkaa", sum := "868fa9a4b7a7ed8467eb78a7220ffe48daf8da9128490162f12d22243b0be5df", func := "loop.example/panecutter/laws.FnExactBufferFor", spec := "fnExactBufferFor", recurses := true, apart := false }
def FnExactBufferForSaid : Prop := fnExactBufferForRow.holds Try.pinned (OpenSpec.ofChange fnExactBufferForSpec)

/-- ITS FALSE NEIGHBOUR: 'it returns false'. Refute it at one input. -/
def fnExactBufferForWrong : ChangeSpec := { name := "fnExactBufferFor", fn := fun _ => fun
  | [d] => { results := [.lit (.bool false)], args := [d] }
  | _ => none }
def FnExactBufferForWrongFalsely : Prop := fnExactBufferForRow.holds Try.pinned (OpenSpec.ofChange fnExactBufferForWrong)

/-- 'laws.FnExactPassBuffer': WHATEVER THE INPUT: true; the input reads as it did. -/
def fnExactPassBufferSpec : ChangeSpec := { name := "fnExactPassBuffer", fn := fun _ => fun
  | [d1, d2] => { results := [.lit (.bool true)], args := [d1, d2] }
  | _ => none }
def fnExactPassBufferRow : OpenClaim := { program := "ytncjnchmmagkkaa", sum := "868fa9a4b7a7ed8467eb78a7220ffe48daf8da9128490162f12d22243b0be5df", func := "loop.example/panecutter/laws.FnExactPassBuffer", spec := "fnExactPassBuffer", recurses := true, apart := false }
def FnExactPassBufferSaid : Prop := fnExactPassBufferRow.holds Try.pinned (OpenSpec.ofChange fnExactPassBufferSpec)

/-- ITS FALSE NEIGHBOUR: 'it returns false'. Refute it at one input. -/
def fnExactPassBufferWrong : ChangeSpec := { name := "fnExactPassBuffer", fn := fun _ => fun
  | [d1, d2] => { results := [.lit (.bool false)], args := [d1, d2] }
  | _ => none }
def FnExactPassBufferWrongFalsely : Prop := fnExactPassBufferRow.holds Try.pinned (OpenSpec.ofChange fnExactPassBufferWrong)

/-- 'laws.FnShelfPlans': WHATEVER THE INPUT: true; the input reads as it did. -/
def fnShelfPlansSpec : ChangeSpec := { name := "fnShelfPlans", fn := fun _ => fun
  | [d] => { results := [.lit (.bool true)], args := [d] }
  | _ => none }
def fnShelfPlansRow : OpenClaim := { program := "ytncjnchmmagkkaa", sum := "868fa9a4b7a7ed8467eb78a7220ffe48daf8da9128490162f12d22243b0be5df", func := "loop.example/panecutter/laws.FnShelfPlans", spec := "fnShelfPlans", unfollowed := true, recurses := true, apart := false }
def FnShelfPlansSaid : Prop := fnShelfPlansRow.holds Try.pinned (OpenSpec.ofChange fnShelfPlansSpec)

/-- ITS FALSE NEIGHBOUR: 'it returns false'. Refute it at one input. -/
def fnShelfPlansWrong : ChangeSpec := { name := "fnShelfPlans", fn := fun _ => fun
  | [d] => { results := [.lit (.bool false)], args := [d] }
  | _ => none }
def FnShelfPlansWrongFalsely : Prop := fnShelfPlansRow.holds Try.pinned (OpenSpec.ofChange fnShelfPlansWrong)

/-- 'laws.FnExactShelfPlans': WHATEVER THE INPUT: true; the input reads as it did. -/
def fnExactShelfPlansSpec : ChangeSpec := { name := "fnExactShelfPlans", fn := fun _ => fun
  | [d] => { results := [.lit (.bool true)], args := [d] }
  | _ => none }
def fnExactShelfPlansRow : OpenClaim := { program := "ytncjnchmmagkkaa", sum := "868fa9a4b7a7ed8467eb78a7220ffe48daf8da9128490162f12d22243b0be5df", func := "loop.example/panecutter/laws.FnExactShelfPlans", spec := "fnExactShelfPlans", unfollowed := true, recurses := true, apart := false }
def FnExactShelfPlansSaid : Prop := fnExactShelfPlansRow.holds Try.pinned (OpenSpec.ofChange fnExactShelfPlansSpec)

/-- ITS FALSE NEIGHBOUR: 'it returns false'. Refute it at one input. -/
def fnExactShelfPlansWrong : ChangeSpec := { name := "fnExactShelfPlans", fn := fun _ => fun
  | [d] => { results := [.lit (.bool false)], args := [d] }
  | _ => none }
def FnExactShelfPlansWrongFalsely : Prop := fnExactShelfPlansRow.holds Try.pinned (OpenSpec.ofChange fnExactShelfPlansWrong)

/-- 'laws.FnAllStepsBest': WHATEVER THE INPUT: true; the input reads as it did. -/
def fnAllStepsBestSpec : ChangeSpec := { name := "fnAllStepsBest", fn := fun _ => fun
  | [d] => { results := [.lit (.bool true)], args := [d] }
  | _ => none }
def fnAllStepsBestRow : OpenClaim := { program := "ytncjnchmmagkkaa", sum := "868fa9a4b7a7ed8467eb78a7220ffe48daf8da9128490162f12d22243b0be5df", func := "loop.example/panecutter/laws.FnAllStepsBest", spec := "fnAllStepsBest", unfollowed := true, recurses := true, apart := false }
def FnAllStepsBestSaid : Prop := fnAllStepsBestRow.holds Try.pinned (OpenSpec.ofChange fnAllStepsBestSpec)

/-- ITS FALSE NEIGHBOUR: 'it returns false'. Refute it at one input. -/
def fnAllStepsBestWrong : ChangeSpec := { name := "fnAllStepsBest", fn := fun _ => fun
  | [d] => { results := [.lit (.bool false)], args := [d] }
  | _ => none }
def FnAllStepsBestWrongFalsely : Prop := fnAllStepsBestRow.holds Try.pinned (OpenSpec.ofChange fnAllStepsBestWrong)

/-- 'laws.FnBestPlan': WHATEVER THE INPUT: true; the input reads as it did. -/
def fnBestPlanSpec : ChangeSpec := { name := "fnBestPlan", fn := fun _ => fun
  | [d] => { results := [.lit (.bool true)], args := [d] }
  | _ => none }
def fnBestPlanRow : OpenClaim := { program := "ytncjnchmmagkkaa", sum := "868fa9a4b7a7ed8467eb78a7220ffe48daf8da9128490162f12d22243b0be5df", func := "loop.example/panecutter/laws.FnBestPlan", spec := "fnBestPlan", recurses := true, apart := false }
def FnBestPlanSaid : Prop := fnBestPlanRow.holds Try.pinned (OpenSpec.ofChange fnBestPlanSpec)

/-- ITS FALSE NEIGHBOUR: 'it returns false'. Refute it at one input. -/
def fnBestPlanWrong : ChangeSpec := { name := "fnBestPlan", fn := fun _ => fun
  | [d] => { results := [.lit (.bool false)], args := [d] }
  | _ => none }
def FnBestPlanWrongFalsely : Prop := fnBestPlanRow.holds Try.pinned (OpenSpec.ofChange fnBestPlanWrong)

/-- 'laws.FnPlanValueBest': WHATEVER THE INPUT: true; the input reads as it did. -/
def fnPlanValueBestSpec : ChangeSpec := { name := "fnPlanValueBest", fn := fun _ => fun
  | [d] => { results := [.lit (.bool true)], args := [d] }
  | _ => none }
def fnPlanValueBestRow : OpenClaim := { program := "ytncjnchmmagkkaa", sum := "868fa9a4b7a7ed8467eb78a7220ffe48daf8da9128490162f12d22243b0be5df", func := "loop.example/panecutter/laws.FnPlanValueBest", spec := "fnPlanValueBest", recurses := true, apart := false }
def FnPlanValueBestSaid : Prop := fnPlanValueBestRow.holds Try.pinned (OpenSpec.ofChange fnPlanValueBestSpec)

/-- ITS FALSE NEIGHBOUR: 'it returns false'. Refute it at one input. -/
def fnPlanValueBestWrong : ChangeSpec := { name := "fnPlanValueBest", fn := fun _ => fun
  | [d] => { results := [.lit (.bool false)], args := [d] }
  | _ => none }
def FnPlanValueBestWrongFalsely : Prop := fnPlanValueBestRow.holds Try.pinned (OpenSpec.ofChange fnPlanValueBestWrong)

/-- 'laws.FnExactBestPlan': WHATEVER THE INPUT: true; the input reads as it did. -/
def fnExactBestPlanSpec : ChangeSpec := { name := "fnExactBestPlan", fn := fun _ => fun
  | [d1, d2] => { results := [.lit (.bool true)], args := [d1, d2] }
  | _ => none }
def fnExactBestPlanRow : OpenClaim := { program := "ytncjnchmmagkkaa", sum := "868fa9a4b7a7ed8467eb78a7220ffe48daf8da9128490162f12d22243b0be5df", func := "loop.example/panecutter/laws.FnExactBestPlan", spec := "fnExactBestPlan", recurses := true, apart := false }
def FnExactBestPlanSaid : Prop := fnExactBestPlanRow.holds Try.pinned (OpenSpec.ofChange fnExactBestPlanSpec)

/-- ITS FALSE NEIGHBOUR: 'it returns false'. Refute it at one input. -/
def fnExactBestPlanWrong : ChangeSpec := { name := "fnExactBestPlan", fn := fun _ => fun
  | [d1, d2] => { results := [.lit (.bool false)], args := [d1, d2] }
  | _ => none }
def FnExactBestPlanWrongFalsely : Prop := fnExactBestPlanRow.holds Try.pinned (OpenSpec.ofChange fnExactBestPlanWrong)

/- THE SECOND FORM. 'bulk': how many values and letters a reading holds, each counted each time it is reached (what is shared counts as often as it is met; a slice's spare places count too). A statement '..UptoSaid' is the law's where the arguments, and the package variables that the reading takes, are together of bulk at most 1048576: NARROWER than '..Said'. Prove '..Said' where nothing that the law and all that it calls make is longer than what came in: it says more and counts as full. Else prove '..UptoSaid'. A law counts once. -/
mutual
def uptoBulk {H : Type} : DataW H → Nat
  | .lit (.string bytes) => bytes.length + 1
  | .lit _ => 1
  | .nil => 1
  | .ptr d => uptoBulk d + 1
  | .slice elems spare => uptoBulkAll elems + uptoBulkAll spare + 1
  | .agg parts => uptoBulkAll parts + 1
  | .iface _ d => uptoBulk d + 1
  | .map entries => uptoBulkEntries entries + 1
  | .held _ => 1
def uptoBulkAll {H : Type} : List (DataW H) → Nat
  | [] => 0
  | d :: r => uptoBulk d + uptoBulkAll r
def uptoBulkEntries {H : Type} : List (Lit × DataW H) → Nat
  | [] => 0
  | x :: r => uptoBulkEntry x + uptoBulkEntries r
def uptoBulkEntry {H : Type} : Lit × DataW H → Nat
  | (.string bytes, d) => bytes.length + uptoBulk d + 1
  | (_, d) => uptoBulk d + 1
 end
def uptoSmall : (H : Type) → List (DataW H) → Bool := fun _ ds => decide (uptoBulkAll ds ≤ 1048576)
def OpenSpec.upto (s : _root_.Go.ChangeSpec) : _root_.Go.OpenSpec := { _root_.Go.OpenSpec.ofChange s with cond := some uptoSmall }

/-- 'laws.FnSpanOf', WHERE WHAT IT READS IS OF BULK AT MOST 1048576: true; the input reads as it did. -/
def fnSpanOfUptoRow : OpenClaim := { program := "ytncjnchmmagkkaa", sum := "868fa9a4b7a7ed8467eb78a7220ffe48daf8da9128490162f12d22243b0be5df", func := "loop.example/panecutter/laws.FnSpanOf", spec := "fnSpanOf", unfollowed := true, recurses := true, apart := false, narrowed := true }
def FnSpanOfUptoSaid : Prop := fnSpanOfUptoRow.holds Try.pinned (OpenSpec.upto fnSpanOfSpec)

/-- 'laws.FnPassBuffer', WHERE WHAT IT READS IS OF BULK AT MOST 1048576: true; the input reads as it did. -/
def fnPassBufferUptoRow : OpenClaim := { program := "ytncjnchmmagkkaa", sum := "868fa9a4b7a7ed8467eb78a7220ffe48daf8da9128490162f12d22243b0be5df", func := "loop.example/panecutter/laws.FnPassBuffer", spec := "fnPassBuffer", recurses := true, apart := false, narrowed := true }
def FnPassBufferUptoSaid : Prop := fnPassBufferUptoRow.holds Try.pinned (OpenSpec.upto fnPassBufferSpec)

/-- 'laws.FnPassBufferEnough', WHERE WHAT IT READS IS OF BULK AT MOST 1048576: true; the input reads as it did. -/
def fnPassBufferEnoughUptoRow : OpenClaim := { program := "ytncjnchmmagkkaa", sum := "868fa9a4b7a7ed8467eb78a7220ffe48daf8da9128490162f12d22243b0be5df", func := "loop.example/panecutter/laws.FnPassBufferEnough", spec := "fnPassBufferEnough", recurses := true, apart := false, narrowed := true }
def FnPassBufferEnoughUptoSaid : Prop := fnPassBufferEnoughUptoRow.holds Try.pinned (OpenSpec.upto fnPassBufferEnoughSpec)

/-- 'laws.FnBufferFor', WHERE WHAT IT READS IS OF BULK AT MOST 1048576: true; the input reads as it did. -/
def fnBufferForUptoRow : OpenClaim := { program := "ytncjnchmmagkkaa", sum := "868fa9a4b7a7ed8467eb78a7220ffe48daf8da9128490162f12d22243b0be5df", func := "loop.example/panecutter/laws.FnBufferFor", spec := "fnBufferFor", recurses := true, apart := false, narrowed := true }
def FnBufferForUptoSaid : Prop := fnBufferForUptoRow.holds Try.pinned (OpenSpec.upto fnBufferForSpec)

/-- 'laws.FnExactBufferFor', WHERE WHAT IT READS IS OF BULK AT MOST 1048576: true; the input reads as it did. -/
def fnExactBufferForUptoRow : OpenClaim := { program := "ytncjnchmmagkkaa", sum := "868fa9a4b7a7ed8467eb78a7220ffe48daf8da9128490162f12d22243b0be5df", func := "loop.example/panecutter/laws.FnExactBufferFor", spec := "fnExactBufferFor", recurses := true, apart := false, narrowed := true }
def FnExactBufferForUptoSaid : Prop := fnExactBufferForUptoRow.holds Try.pinned (OpenSpec.upto fnExactBufferForSpec)

/-- 'laws.FnExactPassBuffer', WHERE WHAT IT READS IS OF BULK AT MOST 1048576: true; the input reads as it did. -/
def fnExactPassBufferUptoRow : OpenClaim := { program := "ytncjnchmmagkkaa", sum := "868fa9a4b7a7ed8467eb78a7220ffe48daf8da9128490162f12d22243b0be5df", func := "loop.example/panecutter/laws.FnExactPassBuffer", spec := "fnExactPassBuffer", recurses := true, apart := false, narrowed := true }
def FnExactPassBufferUptoSaid : Prop := fnExactPassBufferUptoRow.holds Try.pinned (OpenSpec.upto fnExactPassBufferSpec)

/-- 'laws.FnShelfPlans', WHERE WHAT IT READS IS OF BULK AT MOST 1048576: true; the input reads as it did. -/
def fnShelfPlansUptoRow : OpenClaim := { program := "ytncjnchmmagkkaa", sum := "868fa9a4b7a7ed8467eb78a7220ffe48daf8da9128490162f12d22243b0be5df", func := "loop.example/panecutter/laws.FnShelfPlans", spec := "fnShelfPlans", unfollowed := true, recurses := true, apart := false, narrowed := true }
def FnShelfPlansUptoSaid : Prop := fnShelfPlansUptoRow.holds Try.pinned (OpenSpec.upto fnShelfPlansSpec)

/-- 'laws.FnExactShelfPlans', WHERE WHAT IT READS IS OF BULK AT MOST 1048576: true; the input reads as it did. -/
def fnExactShelfPlansUptoRow : OpenClaim := { program := "ytncjnchmmagkkaa", sum := "868fa9a4b7a7ed8467eb78a7220ffe48daf8da9128490162f12d22243b0be5df", func := "loop.example/panecutter/laws.FnExactShelfPlans", spec := "fnExactShelfPlans", unfollowed := true, recurses := true, apart := false, narrowed := true }
def FnExactShelfPlansUptoSaid : Prop := fnExactShelfPlansUptoRow.holds Try.pinned (OpenSpec.upto fnExactShelfPlansSpec)

/-- 'laws.FnAllStepsBest', WHERE WHAT IT READS IS OF BULK AT MOST 1048576: true; the input reads as it did. -/
def fnAllStepsBestUptoRow : OpenClaim := { program := "ytncjnchmmagkkaa", sum := "868fa9a4b7a7ed8467eb78a7220ffe48daf8da9128490162f12d22243b0be5df", func := "loop.example/panecutter/laws.FnAllStepsBest", spec := "fnAllStepsBest", unfollowed := true, recurses := true, apart := false, narrowed := true }
def FnAllStepsBestUptoSaid : Prop := fnAllStepsBestUptoRow.holds Try.pinned (OpenSpec.upto fnAllStepsBestSpec)

/-- 'laws.FnBestPlan', WHERE WHAT IT READS IS OF BULK AT MOST 1048576: true; the input reads as it did. -/
def fnBestPlanUptoRow : OpenClaim := { program := "ytncjnchmmagkkaa", sum := "868fa9a4b7a7ed8467eb78a7220ffe48daf8da9128490162f12d22243b0be5df", func := "loop.example/panecutter/laws.FnBestPlan", spec := "fnBestPlan", recurses := true, apart := false, narrowed := true }
def FnBestPlanUptoSaid : Prop := fnBestPlanUptoRow.holds Try.pinned (OpenSpec.upto fnBestPlanSpec)

/-- 'laws.FnPlanValueBest', WHERE WHAT IT READS IS OF BULK AT MOST 1048576: true; the input reads as it did. -/
def fnPlanValueBestUptoRow : OpenClaim := { program := "ytncjnchmmagkkaa", sum := "868fa9a4b7a7ed8467eb78a7220ffe48daf8da9128490162f12d22243b0be5df", func := "loop.example/panecutter/laws.FnPlanValueBest", spec := "fnPlanValueBest", recurses := true, apart := false, narrowed := true }
def FnPlanValueBestUptoSaid : Prop := fnPlanValueBestUptoRow.holds Try.pinned (OpenSpec.upto fnPlanValueBestSpec)

/-- 'laws.FnExactBestPlan', WHERE WHAT IT READS IS OF BULK AT MOST 1048576: true; the input reads as it did. -/
def fnExactBestPlanUptoRow : OpenClaim := { program := "ytncjnchmmagkkaa", sum := "868fa9a4b7a7ed8467eb78a7220ffe48daf8da9128490162f12d22243b0be5df", func := "loop.example/panecutter/laws.FnExactBestPlan", spec := "fnExactBestPlan", recurses := true, apart := false, narrowed := true }
def FnExactBestPlanUptoSaid : Prop := fnExactBestPlanUptoRow.holds Try.pinned (OpenSpec.upto fnExactBestPlanSpec)

end Rows
end Go.Proofs.Ytncjnchmmagkkaa
