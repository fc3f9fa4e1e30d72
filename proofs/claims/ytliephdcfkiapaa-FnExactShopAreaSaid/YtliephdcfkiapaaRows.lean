/-
  NARROWER THAN 'FOR EVERY INPUT', by the rows' own cells (each row's printed sentence says how): FnExactLostArea: loops · FnExactSamePlaces: loops · FnExactPlanValue: loops · FnExactGoodPlan: loops · FnExactUsedOf: loops.
  DERIVED. THE GIVEN ROWS OF THIS SEAT. 12 by the template 'for every input the law returns true; each argument reads behind the call as it read before'; 0 by the template 'total and deterministic' (their statements: YtliephdcfkiapaaTotals.lean).
  GIVEN WITH THE SEED: the statements are not yours to turn. If you find one false, say at which input.
  Laid BY PROGRAM, IN A SANDBOX (cutbox-rows.mjs): the forced cells as the released guide's own fill.sh prints them over the translation 94b6152ba7165102… (all of the seat's roots in one cut). By AI agents, Wed Nov 11 2026. No macro, syntax, notation, axiom, sorry.
-/
import Derived.Test.YtliephdcfkiapaaChecked
import GoSem.Claim
import GoSem.ClaimJoined
import GoSem.ClaimMapViews
import Derived.JoinedTies
import Derived.KernelRfl
namespace Go.Proofs.Ytliephdcfkiapaa
/- THE CELL 'sum', in the pinned program and in every row, IS THE sha256 OF THE DUMP (.gsa) THAT YtliephdcfkiapaaProg.lean LOADS. Nothing in Lean hashes anything: it is a label: what it is worth is what the hold of that sum in a sandbox is worth. -/
noncomputable def Try.pinned : Pinned := { name := "ytliephdcfkiapaa", sum := "94b6152ba71651021960d92b7ef303990559f99aecf6a92c948a00e1e39827e9", checked := Try.checked }
namespace Rows
def none {H : Type} : Left H := { results := [], args := [] }

/-- 'laws.FnPlacesOfArea': WHATEVER THE INPUT: true; the input reads as it did. -/
def fnPlacesOfAreaSpec : ChangeSpec := { name := "fnPlacesOfArea", fn := fun _ => fun
  | [d] => { results := [.lit (.bool true)], args := [d] }
  | _ => none }
def fnPlacesOfAreaRow : OpenClaim := { program := "ytliephdcfkiapaa", sum := "94b6152ba71651021960d92b7ef303990559f99aecf6a92c948a00e1e39827e9", func := "loop.example/panecutter/laws.FnPlacesOfArea", spec := "fnPlacesOfArea", recurses := true, apart := false }
def FnPlacesOfAreaSaid : Prop := fnPlacesOfAreaRow.holds Try.pinned (OpenSpec.ofChange fnPlacesOfAreaSpec)

/-- ITS FALSE NEIGHBOUR: 'it returns false'. Refute it at one input. -/
def fnPlacesOfAreaWrong : ChangeSpec := { name := "fnPlacesOfArea", fn := fun _ => fun
  | [d] => { results := [.lit (.bool false)], args := [d] }
  | _ => none }
def FnPlacesOfAreaWrongFalsely : Prop := fnPlacesOfAreaRow.holds Try.pinned (OpenSpec.ofChange fnPlacesOfAreaWrong)

/-- 'laws.FnPlacesOf': WHATEVER THE INPUT: true; the input reads as it did. -/
def fnPlacesOfSpec : ChangeSpec := { name := "fnPlacesOf", fn := fun _ => fun
  | [d] => { results := [.lit (.bool true)], args := [d] }
  | _ => none }
def fnPlacesOfRow : OpenClaim := { program := "ytliephdcfkiapaa", sum := "94b6152ba71651021960d92b7ef303990559f99aecf6a92c948a00e1e39827e9", func := "loop.example/panecutter/laws.FnPlacesOf", spec := "fnPlacesOf", recurses := true, apart := false }
def FnPlacesOfSaid : Prop := fnPlacesOfRow.holds Try.pinned (OpenSpec.ofChange fnPlacesOfSpec)

/-- ITS FALSE NEIGHBOUR: 'it returns false'. Refute it at one input. -/
def fnPlacesOfWrong : ChangeSpec := { name := "fnPlacesOf", fn := fun _ => fun
  | [d] => { results := [.lit (.bool false)], args := [d] }
  | _ => none }
def FnPlacesOfWrongFalsely : Prop := fnPlacesOfRow.holds Try.pinned (OpenSpec.ofChange fnPlacesOfWrong)

/-- 'laws.FnPlanValue': WHATEVER THE INPUT: true; the input reads as it did. -/
def fnPlanValueSpec : ChangeSpec := { name := "fnPlanValue", fn := fun _ => fun
  | [d] => { results := [.lit (.bool true)], args := [d] }
  | _ => none }
def fnPlanValueRow : OpenClaim := { program := "ytliephdcfkiapaa", sum := "94b6152ba71651021960d92b7ef303990559f99aecf6a92c948a00e1e39827e9", func := "loop.example/panecutter/laws.FnPlanValue", spec := "fnPlanValue", recurses := true, apart := false }
def FnPlanValueSaid : Prop := fnPlanValueRow.holds Try.pinned (OpenSpec.ofChange fnPlanValueSpec)

/-- ITS FALSE NEIGHBOUR: 'it returns false'. Refute it at one input. -/
def fnPlanValueWrong : ChangeSpec := { name := "fnPlanValue", fn := fun _ => fun
  | [d] => { results := [.lit (.bool false)], args := [d] }
  | _ => none }
def FnPlanValueWrongFalsely : Prop := fnPlanValueRow.holds Try.pinned (OpenSpec.ofChange fnPlanValueWrong)

/-- 'laws.FnExactLostArea': WHATEVER THE INPUT: true; the input reads as it did. -/
def fnExactLostAreaSpec : ChangeSpec := { name := "fnExactLostArea", fn := fun _ => fun
  | [d1, d2, d3] => { results := [.lit (.bool true)], args := [d1, d2, d3] }
  | _ => none }
def fnExactLostAreaRow : OpenClaim := { program := "ytliephdcfkiapaa", sum := "94b6152ba71651021960d92b7ef303990559f99aecf6a92c948a00e1e39827e9", func := "loop.example/panecutter/laws.FnExactLostArea", spec := "fnExactLostArea", recurses := true, loops := true, apart := false }
def FnExactLostAreaSaid : Prop := fnExactLostAreaRow.holds Try.pinned (OpenSpec.ofChange fnExactLostAreaSpec)

/-- ITS FALSE NEIGHBOUR: 'it returns false'. Refute it at one input. -/
def fnExactLostAreaWrong : ChangeSpec := { name := "fnExactLostArea", fn := fun _ => fun
  | [d1, d2, d3] => { results := [.lit (.bool false)], args := [d1, d2, d3] }
  | _ => none }
def FnExactLostAreaWrongFalsely : Prop := fnExactLostAreaRow.holds Try.pinned (OpenSpec.ofChange fnExactLostAreaWrong)

/-- 'laws.FnExactSamePlaces': WHATEVER THE INPUT: true; the input reads as it did. -/
def fnExactSamePlacesSpec : ChangeSpec := { name := "fnExactSamePlaces", fn := fun _ => fun
  | [d1, d2, d3] => { results := [.lit (.bool true)], args := [d1, d2, d3] }
  | _ => none }
def fnExactSamePlacesRow : OpenClaim := { program := "ytliephdcfkiapaa", sum := "94b6152ba71651021960d92b7ef303990559f99aecf6a92c948a00e1e39827e9", func := "loop.example/panecutter/laws.FnExactSamePlaces", spec := "fnExactSamePlaces", recurses := true, loops := true, apart := false }
def FnExactSamePlacesSaid : Prop := fnExactSamePlacesRow.holds Try.pinned (OpenSpec.ofChange fnExactSamePlacesSpec)

/-- ITS FALSE NEIGHBOUR: 'it returns false'. Refute it at one input. -/
def fnExactSamePlacesWrong : ChangeSpec := { name := "fnExactSamePlaces", fn := fun _ => fun
  | [d1, d2, d3] => { results := [.lit (.bool false)], args := [d1, d2, d3] }
  | _ => none }
def FnExactSamePlacesWrongFalsely : Prop := fnExactSamePlacesRow.holds Try.pinned (OpenSpec.ofChange fnExactSamePlacesWrong)

/-- 'laws.FnExactPlanValue': WHATEVER THE INPUT: true; the input reads as it did. -/
def fnExactPlanValueSpec : ChangeSpec := { name := "fnExactPlanValue", fn := fun _ => fun
  | [d1, d2, d3] => { results := [.lit (.bool true)], args := [d1, d2, d3] }
  | _ => none }
def fnExactPlanValueRow : OpenClaim := { program := "ytliephdcfkiapaa", sum := "94b6152ba71651021960d92b7ef303990559f99aecf6a92c948a00e1e39827e9", func := "loop.example/panecutter/laws.FnExactPlanValue", spec := "fnExactPlanValue", recurses := true, loops := true, apart := false }
def FnExactPlanValueSaid : Prop := fnExactPlanValueRow.holds Try.pinned (OpenSpec.ofChange fnExactPlanValueSpec)

/-- ITS FALSE NEIGHBOUR: 'it returns false'. Refute it at one input. -/
def fnExactPlanValueWrong : ChangeSpec := { name := "fnExactPlanValue", fn := fun _ => fun
  | [d1, d2, d3] => { results := [.lit (.bool false)], args := [d1, d2, d3] }
  | _ => none }
def FnExactPlanValueWrongFalsely : Prop := fnExactPlanValueRow.holds Try.pinned (OpenSpec.ofChange fnExactPlanValueWrong)

/-- 'laws.FnExactGoodPlan': WHATEVER THE INPUT: true; the input reads as it did. -/
def fnExactGoodPlanSpec : ChangeSpec := { name := "fnExactGoodPlan", fn := fun _ => fun
  | [d1, d2, d3] => { results := [.lit (.bool true)], args := [d1, d2, d3] }
  | _ => none }
def fnExactGoodPlanRow : OpenClaim := { program := "ytliephdcfkiapaa", sum := "94b6152ba71651021960d92b7ef303990559f99aecf6a92c948a00e1e39827e9", func := "loop.example/panecutter/laws.FnExactGoodPlan", spec := "fnExactGoodPlan", recurses := true, loops := true, apart := false }
def FnExactGoodPlanSaid : Prop := fnExactGoodPlanRow.holds Try.pinned (OpenSpec.ofChange fnExactGoodPlanSpec)

/-- ITS FALSE NEIGHBOUR: 'it returns false'. Refute it at one input. -/
def fnExactGoodPlanWrong : ChangeSpec := { name := "fnExactGoodPlan", fn := fun _ => fun
  | [d1, d2, d3] => { results := [.lit (.bool false)], args := [d1, d2, d3] }
  | _ => none }
def FnExactGoodPlanWrongFalsely : Prop := fnExactGoodPlanRow.holds Try.pinned (OpenSpec.ofChange fnExactGoodPlanWrong)

/-- 'laws.FnExactValidShop': WHATEVER THE INPUT: true; the input reads as it did. -/
def fnExactValidShopSpec : ChangeSpec := { name := "fnExactValidShop", fn := fun _ => fun
  | [d] => { results := [.lit (.bool true)], args := [d] }
  | _ => none }
def fnExactValidShopRow : OpenClaim := { program := "ytliephdcfkiapaa", sum := "94b6152ba71651021960d92b7ef303990559f99aecf6a92c948a00e1e39827e9", func := "loop.example/panecutter/laws.FnExactValidShop", spec := "fnExactValidShop", unfollowed := true, recurses := true, apart := false }
def FnExactValidShopSaid : Prop := fnExactValidShopRow.holds Try.pinned (OpenSpec.ofChange fnExactValidShopSpec)

/-- ITS FALSE NEIGHBOUR: 'it returns false'. Refute it at one input. -/
def fnExactValidShopWrong : ChangeSpec := { name := "fnExactValidShop", fn := fun _ => fun
  | [d] => { results := [.lit (.bool false)], args := [d] }
  | _ => none }
def FnExactValidShopWrongFalsely : Prop := fnExactValidShopRow.holds Try.pinned (OpenSpec.ofChange fnExactValidShopWrong)

/-- 'laws.FnExactShopArea': WHATEVER THE INPUT: true; the input reads as it did. -/
def fnExactShopAreaSpec : ChangeSpec := { name := "fnExactShopArea", fn := fun _ => fun
  | [d] => { results := [.lit (.bool true)], args := [d] }
  | _ => none }
def fnExactShopAreaRow : OpenClaim := { program := "ytliephdcfkiapaa", sum := "94b6152ba71651021960d92b7ef303990559f99aecf6a92c948a00e1e39827e9", func := "loop.example/panecutter/laws.FnExactShopArea", spec := "fnExactShopArea", unfollowed := true, recurses := true, apart := false }
def FnExactShopAreaSaid : Prop := fnExactShopAreaRow.holds Try.pinned (OpenSpec.ofChange fnExactShopAreaSpec)

/-- ITS FALSE NEIGHBOUR: 'it returns false'. Refute it at one input. -/
def fnExactShopAreaWrong : ChangeSpec := { name := "fnExactShopArea", fn := fun _ => fun
  | [d] => { results := [.lit (.bool false)], args := [d] }
  | _ => none }
def FnExactShopAreaWrongFalsely : Prop := fnExactShopAreaRow.holds Try.pinned (OpenSpec.ofChange fnExactShopAreaWrong)

/-- 'laws.FnGoodPlan': WHATEVER THE INPUT: true; the input reads as it did. -/
def fnGoodPlanSpec : ChangeSpec := { name := "fnGoodPlan", fn := fun _ => fun
  | [d] => { results := [.lit (.bool true)], args := [d] }
  | _ => none }
def fnGoodPlanRow : OpenClaim := { program := "ytliephdcfkiapaa", sum := "94b6152ba71651021960d92b7ef303990559f99aecf6a92c948a00e1e39827e9", func := "loop.example/panecutter/laws.FnGoodPlan", spec := "fnGoodPlan", recurses := true, apart := false }
def FnGoodPlanSaid : Prop := fnGoodPlanRow.holds Try.pinned (OpenSpec.ofChange fnGoodPlanSpec)

/-- ITS FALSE NEIGHBOUR: 'it returns false'. Refute it at one input. -/
def fnGoodPlanWrong : ChangeSpec := { name := "fnGoodPlan", fn := fun _ => fun
  | [d] => { results := [.lit (.bool false)], args := [d] }
  | _ => none }
def FnGoodPlanWrongFalsely : Prop := fnGoodPlanRow.holds Try.pinned (OpenSpec.ofChange fnGoodPlanWrong)

/-- 'laws.FnSamePlaces': WHATEVER THE INPUT: true; the input reads as it did. -/
def fnSamePlacesSpec : ChangeSpec := { name := "fnSamePlaces", fn := fun _ => fun
  | [d] => { results := [.lit (.bool true)], args := [d] }
  | _ => none }
def fnSamePlacesRow : OpenClaim := { program := "ytliephdcfkiapaa", sum := "94b6152ba71651021960d92b7ef303990559f99aecf6a92c948a00e1e39827e9", func := "loop.example/panecutter/laws.FnSamePlaces", spec := "fnSamePlaces", recurses := true, apart := false }
def FnSamePlacesSaid : Prop := fnSamePlacesRow.holds Try.pinned (OpenSpec.ofChange fnSamePlacesSpec)

/-- ITS FALSE NEIGHBOUR: 'it returns false'. Refute it at one input. -/
def fnSamePlacesWrong : ChangeSpec := { name := "fnSamePlaces", fn := fun _ => fun
  | [d] => { results := [.lit (.bool false)], args := [d] }
  | _ => none }
def FnSamePlacesWrongFalsely : Prop := fnSamePlacesRow.holds Try.pinned (OpenSpec.ofChange fnSamePlacesWrong)

/-- 'laws.FnExactUsedOf': WHATEVER THE INPUT: true; the input reads as it did. -/
def fnExactUsedOfSpec : ChangeSpec := { name := "fnExactUsedOf", fn := fun _ => fun
  | [d1, d2] => { results := [.lit (.bool true)], args := [d1, d2] }
  | _ => none }
def fnExactUsedOfRow : OpenClaim := { program := "ytliephdcfkiapaa", sum := "94b6152ba71651021960d92b7ef303990559f99aecf6a92c948a00e1e39827e9", func := "loop.example/panecutter/laws.FnExactUsedOf", spec := "fnExactUsedOf", recurses := true, loops := true, apart := false }
def FnExactUsedOfSaid : Prop := fnExactUsedOfRow.holds Try.pinned (OpenSpec.ofChange fnExactUsedOfSpec)

/-- ITS FALSE NEIGHBOUR: 'it returns false'. Refute it at one input. -/
def fnExactUsedOfWrong : ChangeSpec := { name := "fnExactUsedOf", fn := fun _ => fun
  | [d1, d2] => { results := [.lit (.bool false)], args := [d1, d2] }
  | _ => none }
def FnExactUsedOfWrongFalsely : Prop := fnExactUsedOfRow.holds Try.pinned (OpenSpec.ofChange fnExactUsedOfWrong)

/- THE SECOND FORM. 'bulk': how many values and letters a reading holds, each counted each time it is reached (what is shared counts as often as it is met; a slice's spare places count too). A statement '..UptoSaid' is the law's where the arguments, and the package variables that the reading takes, are together of bulk at most 1048576: NARROWER than '..Said'. Prove '..Said' where nothing that the law and all that it calls make is longer than what came in: it says more and counts as full. Else prove '..UptoSaid'. A law counts once. -/
mutual
def uptoBulk {H : Type} : DataW H → Nat
  | .lit (.string bytes) => bytes.length + 1
  | .lit _ => 1
  | .nil => 1
  | .ptr d => uptoBulk d + 1
  | .slice elems spare => uptoBulkAll elems + uptoBulkAll spare + 1
  | .agg parts => uptoBulkAll parts + 1
  | .iface _ d => uptoBulk d + 1
  | .map entries => uptoBulkEntries entries + 1
  | .held _ => 1
def uptoBulkAll {H : Type} : List (DataW H) → Nat
  | [] => 0
  | d :: r => uptoBulk d + uptoBulkAll r
def uptoBulkEntries {H : Type} : List (Lit × DataW H) → Nat
  | [] => 0
  | x :: r => uptoBulkEntry x + uptoBulkEntries r
def uptoBulkEntry {H : Type} : Lit × DataW H → Nat
  | (.string bytes, d) => bytes.length + uptoBulk d + 1
  | (_, d) => uptoBulk d + 1
 end
def uptoSmall : (H : Type) → List (DataW H) → Bool := fun _ ds => decide (uptoBulkAll ds ≤ 1048576)
def OpenSpec.upto (s : _root_.Go.ChangeSpec) : _root_.Go.OpenSpec := { _root_.Go.OpenSpec.ofChange s with cond := some uptoSmall }

/-- 'laws.FnPlacesOfArea', WHERE WHAT IT READS IS OF BULK AT MOST 1048576: true; the input reads as it did. -/
def fnPlacesOfAreaUptoRow : OpenClaim := { program := "ytliephdcfkiapaa", sum := "94b6152ba71651021960d92b7ef303990559f99aecf6a92c948a00e1e39827e9", func := "loop.example/panecutter/laws.FnPlacesOfArea", spec := "fnPlacesOfArea", recurses := true, apart := false, narrowed := true }
def FnPlacesOfAreaUptoSaid : Prop := fnPlacesOfAreaUptoRow.holds Try.pinned (OpenSpec.upto fnPlacesOfAreaSpec)

/-- 'laws.FnPlacesOf', WHERE WHAT IT READS IS OF BULK AT MOST 1048576: true; the input reads as it did. -/
def fnPlacesOfUptoRow : OpenClaim := { program := "ytliephdcfkiapaa", sum := "94b6152ba71651021960d92b7ef303990559f99aecf6a92c948a00e1e39827e9", func := "loop.example/panecutter/laws.FnPlacesOf", spec := "fnPlacesOf", recurses := true, apart := false, narrowed := true }
def FnPlacesOfUptoSaid : Prop := fnPlacesOfUptoRow.holds Try.pinned (OpenSpec.upto fnPlacesOfSpec)

/-- 'laws.FnPlanValue', WHERE WHAT IT READS IS OF BULK AT MOST 1048576: true; the input reads as it did. -/
def fnPlanValueUptoRow : OpenClaim := { program := "ytliephdcfkiapaa", sum := "94b6152ba71651021960d92b7ef303990559f99aecf6a92c948a00e1e39827e9", func := "loop.example/panecutter/laws.FnPlanValue", spec := "fnPlanValue", recurses := true, apart := false, narrowed := true }
def FnPlanValueUptoSaid : Prop := fnPlanValueUptoRow.holds Try.pinned (OpenSpec.upto fnPlanValueSpec)

/-- 'laws.FnExactLostArea', WHERE WHAT IT READS IS OF BULK AT MOST 1048576: true; the input reads as it did. -/
def fnExactLostAreaUptoRow : OpenClaim := { program := "ytliephdcfkiapaa", sum := "94b6152ba71651021960d92b7ef303990559f99aecf6a92c948a00e1e39827e9", func := "loop.example/panecutter/laws.FnExactLostArea", spec := "fnExactLostArea", recurses := true, loops := true, apart := false, narrowed := true }
def FnExactLostAreaUptoSaid : Prop := fnExactLostAreaUptoRow.holds Try.pinned (OpenSpec.upto fnExactLostAreaSpec)

/-- 'laws.FnExactSamePlaces', WHERE WHAT IT READS IS OF BULK AT MOST 1048576: true; the input reads as it did. -/
def fnExactSamePlacesUptoRow : OpenClaim := { program := "ytliephdcfkiapaa", sum := "94b6152ba71651021960d92b7ef303990559f99aecf6a92c948a00e1e39827e9", func := "loop.example/panecutter/laws.FnExactSamePlaces", spec := "fnExactSamePlaces", recurses := true, loops := true, apart := false, narrowed := true }
def FnExactSamePlacesUptoSaid : Prop := fnExactSamePlacesUptoRow.holds Try.pinned (OpenSpec.upto fnExactSamePlacesSpec)

/-- 'laws.FnExactPlanValue', WHERE WHAT IT READS IS OF BULK AT MOST 1048576: true; the input reads as it did. -/
def fnExactPlanValueUptoRow : OpenClaim := { program := "ytliephdcfkiapaa", sum := "94b6152ba71651021960d92b7ef303990559f99aecf6a92c948a00e1e39827e9", func := "loop.example/panecutter/laws.FnExactPlanValue", spec := "fnExactPlanValue", recurses := true, loops := true, apart := false, narrowed := true }
def FnExactPlanValueUptoSaid : Prop := fnExactPlanValueUptoRow.holds Try.pinned (OpenSpec.upto fnExactPlanValueSpec)

/-- 'laws.FnExactGoodPlan', WHERE WHAT IT READS IS OF BULK AT MOST 1048576: true; the input reads as it did. -/
def fnExactGoodPlanUptoRow : OpenClaim := { program := "ytliephdcfkiapaa", sum := "94b6152ba71651021960d92b7ef303990559f99aecf6a92c948a00e1e39827e9", func := "loop.example/panecutter/laws.FnExactGoodPlan", spec := "fnExactGoodPlan", recurses := true, loops := true, apart := false, narrowed := true }
def FnExactGoodPlanUptoSaid : Prop := fnExactGoodPlanUptoRow.holds Try.pinned (OpenSpec.upto fnExactGoodPlanSpec)

/-- 'laws.FnExactValidShop', WHERE WHAT IT READS IS OF BULK AT MOST 1048576: true; the input reads as it did. -/
def fnExactValidShopUptoRow : OpenClaim := { program := "ytliephdcfkiapaa", sum := "94b6152ba71651021960d92b7ef303990559f99aecf6a92c948a00e1e39827e9", func := "loop.example/panecutter/laws.FnExactValidShop", spec := "fnExactValidShop", unfollowed := true, recurses := true, apart := false, narrowed := true }
def FnExactValidShopUptoSaid : Prop := fnExactValidShopUptoRow.holds Try.pinned (OpenSpec.upto fnExactValidShopSpec)

/-- 'laws.FnExactShopArea', WHERE WHAT IT READS IS OF BULK AT MOST 1048576: true; the input reads as it did. -/
def fnExactShopAreaUptoRow : OpenClaim := { program := "ytliephdcfkiapaa", sum := "94b6152ba71651021960d92b7ef303990559f99aecf6a92c948a00e1e39827e9", func := "loop.example/panecutter/laws.FnExactShopArea", spec := "fnExactShopArea", unfollowed := true, recurses := true, apart := false, narrowed := true }
def FnExactShopAreaUptoSaid : Prop := fnExactShopAreaUptoRow.holds Try.pinned (OpenSpec.upto fnExactShopAreaSpec)

/-- 'laws.FnGoodPlan', WHERE WHAT IT READS IS OF BULK AT MOST 1048576: true; the input reads as it did. -/
def fnGoodPlanUptoRow : OpenClaim := { program := "ytliephdcfkiapaa", sum := "94b6152ba71651021960d92b7ef303990559f99aecf6a92c948a00e1e39827e9", func := "loop.example/panecutter/laws.FnGoodPlan", spec := "fnGoodPlan", recurses := true, apart := false, narrowed := true }
def FnGoodPlanUptoSaid : Prop := fnGoodPlanUptoRow.holds Try.pinned (OpenSpec.upto fnGoodPlanSpec)

/-- 'laws.FnSamePlaces', WHERE WHAT IT READS IS OF BULK AT MOST 1048576: true; the input reads as it did. -/
def fnSamePlacesUptoRow : OpenClaim := { program := "ytliephdcfkiapaa", sum := "94b6152ba71651021960d92b7ef303990559f99aecf6a92c948a00e1e39827e9", func := "loop.example/panecutter/laws.FnSamePlaces", spec := "fnSamePlaces", recurses := true, apart := false, narrowed := true }
def FnSamePlacesUptoSaid : Prop := fnSamePlacesUptoRow.holds Try.pinned (OpenSpec.upto fnSamePlacesSpec)

/-- 'laws.FnExactUsedOf', WHERE WHAT IT READS IS OF BULK AT MOST 1048576: true; the input reads as it did. -/
def fnExactUsedOfUptoRow : OpenClaim := { program := "ytliephdcfkiapaa", sum := "94b6152ba71651021960d92b7ef303990559f99aecf6a92c948a00e1e39827e9", func := "loop.example/panecutter/laws.FnExactUsedOf", spec := "fnExactUsedOf", recurses := true, loops := true, apart := false, narrowed := true }
def FnExactUsedOfUptoSaid : Prop := fnExactUsedOfUptoRow.holds Try.pinned (OpenSpec.upto fnExactUsedOfSpec)

end Rows
end Go.Proofs.Ytliephdcfkiapaa
