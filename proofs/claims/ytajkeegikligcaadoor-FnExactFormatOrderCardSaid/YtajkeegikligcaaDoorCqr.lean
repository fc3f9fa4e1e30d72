/- The types of the exact laws' arguments: orders. -/
import Derived.Test.YtajkeegikligcaaDoorCqa
import Derived.Test.YtajkeegikligcaaDoorRy
set_option linter.unusedSimpArgs false
set_option linter.unusedVariables false
namespace Go.Pc
open Go Go.Proofs

set_option maxRecDepth 100000
theorem line_shp {n : Nat} {xs : List AV} (h : Shp Tryd.prog n 63 xs) : ∃ x : Ln, xs = x.cs ∧ (-9223372036854775808 ≤ x.N ∧ x.N ≤ 9223372036854775807) := by
  obtain ⟨m, rfl, hl, hf⟩ := struct_shp Tryd.underlying63 h
  have hc : Tryd.prog.cellsOf 63 = 5 := by kernel_rfl
  have c3 : Tryd.prog.cellsOf 3 = 1 := by kernel_rfl
  have cp : Tryd.prog.cellsOf 61 = 4 := by kernel_rfl
  rw [hc] at hl
  obtain ⟨a, b, c, d, e, rfl⟩ := len5 hl
  · skip
    simp only [List.forall_mem_cons, List.not_mem_nil, c3, cp, List.drop_succ_cons, List.drop_zero, List.take_succ_cons, List.take_zero] at hf
    obtain ⟨h1, h2, _⟩ := hf
    obtain ⟨q, h1⟩ := pane_shp h1
    obtain ⟨z, h2, hz⟩ := int_shp Tryd.underlying3 h2
    simp only [Pane.cs, List.cons.injEq, and_true] at h1
    obtain ⟨rfl, rfl, rfl, rfl⟩ := h1
    cases h2
    exact ⟨⟨q, z⟩, rfl, hz⟩

section
open Go.ChangeShapes Go.WideShapes
variable {H : Type} {enc : TypeId × Value → H} {W : World} {r : Reach} {b0 : Nat} {v : Value} {d : DataW H} {p : List MemPlace}
theorem opened_lines (hw : Value.okWide Tryd.prog W r b0 33 v) (h : DataW.Trod enc Tryd.prog W 0 (fun _ => true) true 33 v d p) : ∃ l : List Ln, VR W rho0 v (.sl (l.map Ln.cs)) ∧ l.length ≤ 9223372036854775807 ∧ ∀ x ∈ l, -9223372036854775808 ≤ x.N ∧ x.N ≤ 9223372036854775807 := by
  obtain ⟨a0, len0, cap0, rfl⟩ := okWide_slice Tryd.underlying33 hw
  obtain ⟨n, x, h1, h2⟩ := cell_opened (S := [33, 63, 61, 3, 4]) (plain_all (by kernel_rfl)) (by simp) rfl h
  obtain ⟨m', es, _, h3, hle, hes⟩ := row_shp Tryd.underlying33 h1
  obtain ⟨l, rfl, hL⟩ := rows_ofP (cs := Ln.cs) (M := fun x : Ln => -9223372036854775808 ≤ x.N ∧ x.N ≤ 9223372036854775807) fun c hc => line_shp (hes c hc)
  cases h3
  exact ⟨l, h2, by simpa using hle, hL⟩
end
end Go.Pc
