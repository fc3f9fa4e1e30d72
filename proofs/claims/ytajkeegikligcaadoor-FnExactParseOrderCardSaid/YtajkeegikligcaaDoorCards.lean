/-
  DERIVED. GIVEN WITH THE SEED: THE CARDS: each row of YtajkeegikligcaaDoorRows.lean that lists a variable, with what it lists TIED to the program's text (the seventh form; the later family's looks); each row that meets fmt, with fmt's text TOLD by the authors' own Lean function (tested against real Go, not proved from fmt's source: count such statements apart). THE CARD IS WHAT COUNTS. Prove the row's statement (the work); the ties are given (YtajkeegikligcaaDoorTie.lean); close each card by the builder's one call (the guide's Derived/Test/ToyasCard.lean, 'card_holds'). Laid BY PROGRAM, IN A SANDBOX (cutbox-door.mjs). By AI agents, Wed Nov 11 2026. No macro, syntax, notation, axiom, sorry.
-/
import Derived.Test.YtajkeegikligcaaDoorRows
import GoSem.ClaimSeven
namespace Go.Proofs.YtajkeegikligcaaDoor
namespace Rows

/-- THE TIED CARD OF 'laws.FnExactFormatPlan'. -/
def fnExactFormatPlanCard : Claim7 := { stood := { row := fnExactFormatPlanRow, standIns := [], harness := (true, "a993e2da95c6f5867de34748a18e9828ef1c2a1653c9c4e32177ea756da3eef7"), looks := false }, kinds := [], alts := [], laidByText := true, laidKinds := [.data, .data, .data], laidTests := true, laidLooks := .later }
def FnExactFormatPlanCardSaid : Prop := Claim7.holds Tryd.pinned (.plain (OpenSpec.ofChange fnExactFormatPlanSpec)) fnExactFormatPlanCard

/-- THE TIED CARD OF 'laws.FnExactFormatOrder'. -/
def fnExactFormatOrderCard : Claim7 := { stood := { row := fnExactFormatOrderRow, standIns := [], harness := (true, "a993e2da95c6f5867de34748a18e9828ef1c2a1653c9c4e32177ea756da3eef7"), looks := false }, kinds := [], alts := [], laidByText := true, laidKinds := [.data, .data, .data], laidTests := true, laidLooks := .later }
def FnExactFormatOrderCardSaid : Prop := Claim7.holds Tryd.pinned (.plain (OpenSpec.ofChange fnExactFormatOrderSpec)) fnExactFormatOrderCard

/-- THE TIED CARD OF 'laws.FnExactParseOrder'. -/
def fnExactParseOrderCard : Claim7 := { stood := { row := fnExactParseOrderRow, standIns := [], harness := (true, "a993e2da95c6f5867de34748a18e9828ef1c2a1653c9c4e32177ea756da3eef7"), looks := false }, kinds := [], alts := [], laidByText := true, laidKinds := [.data, .pinned], laidTests := true, laidLooks := .later }
def FnExactParseOrderCardSaid : Prop := Claim7.holds Tryd.pinned (.plain (OpenSpec.ofChange fnExactParseOrderSpec)) fnExactParseOrderCard

/-- THE SECOND FORM's CARD OF 'laws.FnExactFormatPlan'. -/
def fnExactFormatPlanUptoCard : Claim7 := { stood := { row := fnExactFormatPlanUptoRow, standIns := [], harness := (true, "a993e2da95c6f5867de34748a18e9828ef1c2a1653c9c4e32177ea756da3eef7"), looks := false }, kinds := [], alts := [], laidByText := true, laidKinds := [.data, .data, .data], laidTests := true, laidLooks := .later }
def FnExactFormatPlanUptoCardSaid : Prop := Claim7.holds Tryd.pinned (.plain (OpenSpec.upto fnExactFormatPlanSpec)) fnExactFormatPlanUptoCard

/-- THE SECOND FORM's CARD OF 'laws.FnExactFormatOrder'. -/
def fnExactFormatOrderUptoCard : Claim7 := { stood := { row := fnExactFormatOrderUptoRow, standIns := [], harness := (true, "a993e2da95c6f5867de34748a18e9828ef1c2a1653c9c4e32177ea756da3eef7"), looks := false }, kinds := [], alts := [], laidByText := true, laidKinds := [.data, .data, .data], laidTests := true, laidLooks := .later }
def FnExactFormatOrderUptoCardSaid : Prop := Claim7.holds Tryd.pinned (.plain (OpenSpec.upto fnExactFormatOrderSpec)) fnExactFormatOrderUptoCard

/-- THE SECOND FORM's CARD OF 'laws.FnExactParseOrder'. -/
def fnExactParseOrderUptoCard : Claim7 := { stood := { row := fnExactParseOrderUptoRow, standIns := [], harness := (true, "a993e2da95c6f5867de34748a18e9828ef1c2a1653c9c4e32177ea756da3eef7"), looks := false }, kinds := [], alts := [], laidByText := true, laidKinds := [.data, .pinned], laidTests := true, laidLooks := .later }
def FnExactParseOrderUptoCardSaid : Prop := Claim7.holds Tryd.pinned (.plain (OpenSpec.upto fnExactParseOrderSpec)) fnExactParseOrderUptoCard
end Rows
end Go.Proofs.YtajkeegikligcaaDoor
