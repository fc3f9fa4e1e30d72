/- Texts of plans: the program's writer. -/
import Derived.Test.YtajkeegikligcaaDoorCpa
import Derived.Test.YtajkeegikligcaaDoorShb
import Derived.Test.YtajkeegikligcaaDoorRow
import Derived.WalkKit
import Derived.BigCall
import Derived.Lib.AppendIntMem
set_option linter.unusedSimpArgs false
set_option linter.unusedVariables false
namespace Go.Pc
open Go Go.Proofs Go.Lib Go.RowKit

/-- Numbers in the program's texts. -/
theorem itoa_raw (n : Nat) (hn : n ≤ 200) (W : World) (htab : TabIs Tryd.prog W "internal/strconv.uint64pow10" .u64 pow10Tab) :
    Calls Tryd.prog 46 #[.int .i64 n] W fun e W' => e = .returned (.string (strB (decDigits n))) ∧ ∃ k os, W' = Go.Sort.grow (W.drewN k) os := by
  refine (Tryd.strconv_Itoa n (by omega) (by omega) W htab).mono fun e W' ⟨h1, h2⟩ => ⟨?_, h2⟩
  rw [h1]
  have : Lib.itoa (n : Int) = decDigits n := by
    unfold Lib.itoa
    rw [if_neg (by omega)]
    rfl
  rw [this]
  rfl

theorem BuilderAtF.grow {T e : TypeId} {B b : Nat} {p : Value} {bs : List Value} {w : World} (h : BuilderAtF T e B b p bs w) (k : Nat) (os : Array Obj) : BuilderAtF T e B b p bs (Go.Sort.grow (w.drewN k) os) := by
  obtain ⟨hB, v, hb, hown, hne⟩ := h
  have hlt : b < w.heap.size := by
    rcases Nat.lt_or_ge b w.heap.size with h' | h'
    · exact h'
    · simp [Array.getElem?_eq_none h'] at hb
  exact ⟨hB, v, by rw [Lib.heap_grow_old w k os b hlt]; exact hb, hown.kept (row := none) ⟨rfl, rfl, rfl, Lib.size_grow w k os, fun j hj _ => Lib.heap_grow_old w k os j hj⟩ (by cases hv : v.ownBlock <;> simp), hne⟩
end Go.Pc
