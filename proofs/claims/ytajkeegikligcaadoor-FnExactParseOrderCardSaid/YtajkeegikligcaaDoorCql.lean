/- Texts of orders: the program's lineText. -/
import Derived.Test.YtajkeegikligcaaDoorCqb
import Derived.Test.YtajkeegikligcaaDoorCqk
set_option linter.unusedSimpArgs false
set_option linter.unusedVariables false
namespace Go.Pc
open Go Go.Proofs Go.Lib Go.RowKit

theorem below_growE {w w' : World} (hb : Below w.heap.size w w') : Grow w w' := ⟨hb.size, fun k hk _ => hb.block k hk, fun k c e f hc => ⟨c, by rw [hb.block k (Array.getElem?_eq_some_iff.1 hc).1]; exact hc, rfl⟩, hb.os, hb.output, hb.tape⟩

/-- A row of texts. -/
def strs (xs : List (List UInt8)) : List (List AV) := xs.map fun x => [.val (.string (strB x))]

end Go.Pc
