/- Texts of plans: the program's writer. -/
import Derived.Test.YtajkeegikligcaaDoorCpa
import Derived.Shelf.Strings.BuilderK
import Derived.Test.YtajkeegikligcaaDoorShd
import Derived.Test.YtajkeegikligcaaDoorRow
import Derived.WalkKit
import Derived.BigCall
import Derived.Lib.AppendIntMem
set_option linter.unusedSimpArgs false
set_option linter.unusedVariables false
namespace Go.Pc
open Go Go.Proofs Go.Lib Go.RowKit

theorem BuilderAtF.grow {T e : TypeId} {B b : Nat} {p : Value} {bs : List Value} {w : World} (h : BuilderAtF T e B b p bs w) (k : Nat) (os : Array Obj) : BuilderAtF T e B b p bs (Go.Sort.grow (w.drewN k) os) := by
  obtain ⟨hB, v, hb, hown, hne⟩ := h
  have hlt : b < w.heap.size := by
    rcases Nat.lt_or_ge b w.heap.size with h' | h'
    · exact h'
    · simp [Array.getElem?_eq_none h'] at hb
  exact ⟨hB, v, by rw [Lib.heap_grow_old w k os b hlt]; exact hb, hown.kept (row := none) ⟨rfl, rfl, rfl, Lib.size_grow w k os, fun j hj _ => Lib.heap_grow_old w k os j hj⟩ (by cases hv : v.ownBlock <;> simp), hne⟩
end Go.Pc
