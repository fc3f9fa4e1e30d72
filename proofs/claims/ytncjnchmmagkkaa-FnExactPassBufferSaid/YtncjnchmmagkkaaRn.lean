/- A number is opened. -/
import Derived.Test.YtncjnchmmagkkaaRi
set_option linter.unusedSimpArgs false
set_option linter.unusedVariables false
namespace Go.Pc
open Go Go.Proofs Go.ChangeShapes Go.WideShapes

set_option maxRecDepth 100000 in
theorem opened_int {H : Type} {enc : TypeId × Value → H} {W : World} {r : Reach} {b0 : Nat} {v : Value} {d : DataW H} {p : List MemPlace} (hw : Value.okWide Try.prog W r b0 3 v) (h : DataW.Trod enc Try.prog W 0 (fun _ => true) true 3 v d p) : ∃ z : Int, VR W rho0 v (.val (.int .i64 z)) ∧ (-9223372036854775808 ≤ z ∧ z ≤ 9223372036854775807) := by
  obtain ⟨z, rfl⟩ := okWide_int Try.underlying3 hw
  obtain ⟨n, x, h1, h2⟩ := cell_opened (S := [3]) (plain_all (by kernel_rfl)) (by simp) rfl h
  obtain ⟨z, hz, hr⟩ := int_shp Try.underlying3 h1
  cases hz
  exact ⟨z, h2, hr⟩

end Go.Pc
