/- The types of the exact laws' arguments: rows of numbers. -/
import Derived.Test.YtkcpcmobmalijaaRy
import Derived.Test.YtkcpcmobmalijaaHa
set_option linter.unusedSimpArgs false
set_option linter.unusedVariables false
namespace Go.Pc
open Go Go.Proofs

def rng (z : Int) : Prop := -9223372036854775808 ≤ z ∧ z ≤ 9223372036854775807

set_option maxRecDepth 100000

theorem ints_shp {n : Nat} {xs : List AV} (h : Shp Try.prog n 26 xs) : ∃ l : List Int, xs = [.sl (ints l)] ∧ (l.length ≤ 9223372036854775807 ∧ ∀ x ∈ l, rng x) := by
  obtain ⟨m', es, _, rfl, hle, hes⟩ := row_shp Try.underlying26 h
  obtain ⟨l, rfl, hL⟩ := rows_ofP (cs := fun x : Int => [AV.val (.int .i64 x)]) (M := rng) fun c hc => int_shp Try.underlying3 (hes c hc)
  exact ⟨l, rfl, by simpa using hle, hL⟩
section
open Go.ChangeShapes Go.WideShapes
variable {H : Type} {enc : TypeId × Value → H} {W : World} {r : Reach} {b0 : Nat} {v : Value} {d : DataW H} {p : List MemPlace}
theorem opened_ints (hw : Value.okWide Try.prog W r b0 26 v) (h : DataW.Trod enc Try.prog W 0 (fun _ => true) true 26 v d p) : ∃ l : List Int, VR W rho0 v (.sl (ints l)) ∧ (l.length ≤ 9223372036854775807 ∧ ∀ x ∈ l, rng x) := by
  obtain ⟨a0, len0, cap0, rfl⟩ := okWide_slice Try.underlying26 hw
  obtain ⟨n, x, h1, h2⟩ := cell_opened (S := [26, 3]) (plain_all (by kernel_rfl)) (by simp) rfl h
  obtain ⟨l, hz, hr⟩ := ints_shp h1
  cases hz
  exact ⟨l, h2, hr⟩
end

end Go.Pc
