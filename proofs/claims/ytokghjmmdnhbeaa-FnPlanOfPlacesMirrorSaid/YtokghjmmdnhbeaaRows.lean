/-
  No cell of these rows narrows 'for every input' (looked for: loops, veiled, ifaces, maps, wideKeys, modest, calm, conditions, laid).
  DERIVED. THE GIVEN ROWS OF THIS SEAT. 3 by the template 'for every input the law returns true; each argument reads behind the call as it read before'; 0 by the template 'total and deterministic' (their statements: YtokghjmmdnhbeaaTotals.lean).
  GIVEN WITH THE SEED: the statements are not yours to turn. If you find one false, say at which input.
  Laid BY PROGRAM, IN A SANDBOX (cutbox-rows.mjs): the forced cells as the released guide's own fill.sh prints them over the translation b1b6b99f7572aa0b… (all of the seat's roots in one cut). By AI agents, Wed Nov 11 2026. No macro, syntax, notation, axiom, sorry.
-/
import Derived.Test.YtokghjmmdnhbeaaChecked
import GoSem.Claim
import GoSem.ClaimJoined
import GoSem.ClaimMapViews
import Derived.JoinedTies
import Derived.KernelRfl
namespace Go.Proofs.Ytokghjmmdnhbeaa
/- THE CELL 'sum', in the pinned program and in every row, IS THE sha256 OF THE DUMP (.gsa) THAT YtokghjmmdnhbeaaProg.lean LOADS. Nothing in Lean hashes anything: it is a label: what it is worth is what the hold of that sum in a sandbox is worth. -/
noncomputable def Try.pinned : Pinned := { name := "ytokghjmmdnhbeaa", sum := "b1b6b99f7572aa0b30edc38e918f8b8a013147da1d518ef559d105ead6bcab2f", checked := Try.checked }
namespace Rows
def none {H : Type} : Left H := { results := [], args := [] }

/-- 'laws.FnPlanOfPlacesOf': WHATEVER THE INPUT: true; the input reads as it did. -/
def fnPlanOfPlacesOfSpec : ChangeSpec := { name := "fnPlanOfPlacesOf", fn := fun _ => fun
  | [d] => { results := [.lit (.bool true)], args := [d] }
  | _ => none }
def fnPlanOfPlacesOfRow : OpenClaim := { program := "ytokghjmmdnhbeaa", sum := "b1b6b99f7572aa0b30edc38e918f8b8a013147da1d518ef559d105ead6bcab2f", func := "loop.example/panecutter/laws.FnPlanOfPlacesOf", spec := "fnPlanOfPlacesOf", recurses := true, apart := false }
def FnPlanOfPlacesOfSaid : Prop := fnPlanOfPlacesOfRow.holds Try.pinned (OpenSpec.ofChange fnPlanOfPlacesOfSpec)

/-- ITS FALSE NEIGHBOUR: 'it returns false'. Refute it at one input. -/
def fnPlanOfPlacesOfWrong : ChangeSpec := { name := "fnPlanOfPlacesOf", fn := fun _ => fun
  | [d] => { results := [.lit (.bool false)], args := [d] }
  | _ => none }
def FnPlanOfPlacesOfWrongFalsely : Prop := fnPlanOfPlacesOfRow.holds Try.pinned (OpenSpec.ofChange fnPlanOfPlacesOfWrong)

/-- 'laws.FnPlanOfPlacesMirror': WHATEVER THE INPUT: true; the input reads as it did. -/
def fnPlanOfPlacesMirrorSpec : ChangeSpec := { name := "fnPlanOfPlacesMirror", fn := fun _ => fun
  | [d] => { results := [.lit (.bool true)], args := [d] }
  | _ => none }
def fnPlanOfPlacesMirrorRow : OpenClaim := { program := "ytokghjmmdnhbeaa", sum := "b1b6b99f7572aa0b30edc38e918f8b8a013147da1d518ef559d105ead6bcab2f", func := "loop.example/panecutter/laws.FnPlanOfPlacesMirror", spec := "fnPlanOfPlacesMirror", recurses := true, apart := false }
def FnPlanOfPlacesMirrorSaid : Prop := fnPlanOfPlacesMirrorRow.holds Try.pinned (OpenSpec.ofChange fnPlanOfPlacesMirrorSpec)

/-- ITS FALSE NEIGHBOUR: 'it returns false'. Refute it at one input. -/
def fnPlanOfPlacesMirrorWrong : ChangeSpec := { name := "fnPlanOfPlacesMirror", fn := fun _ => fun
  | [d] => { results := [.lit (.bool false)], args := [d] }
  | _ => none }
def FnPlanOfPlacesMirrorWrongFalsely : Prop := fnPlanOfPlacesMirrorRow.holds Try.pinned (OpenSpec.ofChange fnPlanOfPlacesMirrorWrong)

/-- 'laws.FnPlanOfPlacesOrder': WHATEVER THE INPUT: true; the input reads as it did. -/
def fnPlanOfPlacesOrderSpec : ChangeSpec := { name := "fnPlanOfPlacesOrder", fn := fun _ => fun
  | [d] => { results := [.lit (.bool true)], args := [d] }
  | _ => none }
def fnPlanOfPlacesOrderRow : OpenClaim := { program := "ytokghjmmdnhbeaa", sum := "b1b6b99f7572aa0b30edc38e918f8b8a013147da1d518ef559d105ead6bcab2f", func := "loop.example/panecutter/laws.FnPlanOfPlacesOrder", spec := "fnPlanOfPlacesOrder", recurses := true, apart := false }
def FnPlanOfPlacesOrderSaid : Prop := fnPlanOfPlacesOrderRow.holds Try.pinned (OpenSpec.ofChange fnPlanOfPlacesOrderSpec)

/-- ITS FALSE NEIGHBOUR: 'it returns false'. Refute it at one input. -/
def fnPlanOfPlacesOrderWrong : ChangeSpec := { name := "fnPlanOfPlacesOrder", fn := fun _ => fun
  | [d] => { results := [.lit (.bool false)], args := [d] }
  | _ => none }
def FnPlanOfPlacesOrderWrongFalsely : Prop := fnPlanOfPlacesOrderRow.holds Try.pinned (OpenSpec.ofChange fnPlanOfPlacesOrderWrong)

/- THE SECOND FORM. 'bulk': how many values and letters a reading holds, each counted each time it is reached (what is shared counts as often as it is met; a slice's spare places count too). A statement '..UptoSaid' is the law's where the arguments, and the package variables that the reading takes, are together of bulk at most 1048576: NARROWER than '..Said'. Prove '..Said' where nothing that the law and all that it calls make is longer than what came in: it says more and counts as full. Else prove '..UptoSaid'. A law counts once. -/
mutual
def uptoBulk {H : Type} : DataW H → Nat
  | .lit (.string bytes) => bytes.length + 1
  | .lit _ => 1
  | .nil => 1
  | .ptr d => uptoBulk d + 1
  | .slice elems spare => uptoBulkAll elems + uptoBulkAll spare + 1
  | .agg parts => uptoBulkAll parts + 1
  | .iface _ d => uptoBulk d + 1
  | .map entries => uptoBulkEntries entries + 1
  | .held _ => 1
def uptoBulkAll {H : Type} : List (DataW H) → Nat
  | [] => 0
  | d :: r => uptoBulk d + uptoBulkAll r
def uptoBulkEntries {H : Type} : List (Lit × DataW H) → Nat
  | [] => 0
  | x :: r => uptoBulkEntry x + uptoBulkEntries r
def uptoBulkEntry {H : Type} : Lit × DataW H → Nat
  | (.string bytes, d) => bytes.length + uptoBulk d + 1
  | (_, d) => uptoBulk d + 1
 end
def uptoSmall : (H : Type) → List (DataW H) → Bool := fun _ ds => decide (uptoBulkAll ds ≤ 1048576)
def OpenSpec.upto (s : _root_.Go.ChangeSpec) : _root_.Go.OpenSpec := { _root_.Go.OpenSpec.ofChange s with cond := some uptoSmall }

/-- 'laws.FnPlanOfPlacesOf', WHERE WHAT IT READS IS OF BULK AT MOST 1048576: true; the input reads as it did. -/
def fnPlanOfPlacesOfUptoRow : OpenClaim := { program := "ytokghjmmdnhbeaa", sum := "b1b6b99f7572aa0b30edc38e918f8b8a013147da1d518ef559d105ead6bcab2f", func := "loop.example/panecutter/laws.FnPlanOfPlacesOf", spec := "fnPlanOfPlacesOf", recurses := true, apart := false, narrowed := true }
def FnPlanOfPlacesOfUptoSaid : Prop := fnPlanOfPlacesOfUptoRow.holds Try.pinned (OpenSpec.upto fnPlanOfPlacesOfSpec)

/-- 'laws.FnPlanOfPlacesMirror', WHERE WHAT IT READS IS OF BULK AT MOST 1048576: true; the input reads as it did. -/
def fnPlanOfPlacesMirrorUptoRow : OpenClaim := { program := "ytokghjmmdnhbeaa", sum := "b1b6b99f7572aa0b30edc38e918f8b8a013147da1d518ef559d105ead6bcab2f", func := "loop.example/panecutter/laws.FnPlanOfPlacesMirror", spec := "fnPlanOfPlacesMirror", recurses := true, apart := false, narrowed := true }
def FnPlanOfPlacesMirrorUptoSaid : Prop := fnPlanOfPlacesMirrorUptoRow.holds Try.pinned (OpenSpec.upto fnPlanOfPlacesMirrorSpec)

/-- 'laws.FnPlanOfPlacesOrder', WHERE WHAT IT READS IS OF BULK AT MOST 1048576: true; the input reads as it did. -/
def fnPlanOfPlacesOrderUptoRow : OpenClaim := { program := "ytokghjmmdnhbeaa", sum := "b1b6b99f7572aa0b30edc38e918f8b8a013147da1d518ef559d105ead6bcab2f", func := "loop.example/panecutter/laws.FnPlanOfPlacesOrder", spec := "fnPlanOfPlacesOrder", recurses := true, apart := false, narrowed := true }
def FnPlanOfPlacesOrderUptoSaid : Prop := fnPlanOfPlacesOrderUptoRow.holds Try.pinned (OpenSpec.upto fnPlanOfPlacesOrderSpec)

end Rows
end Go.Proofs.Ytokghjmmdnhbeaa
