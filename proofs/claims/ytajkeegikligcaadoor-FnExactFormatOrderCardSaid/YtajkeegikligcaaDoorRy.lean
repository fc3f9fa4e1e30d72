/- The types of the exact laws' arguments: works, plans, numbers. -/
import Derived.Test.YtajkeegikligcaaDoorRx
import Derived.Test.YtajkeegikligcaaDoorCg
set_option linter.unusedSimpArgs false
set_option linter.unusedVariables false
namespace Go.Pc
open Go Go.Proofs

theorem int_shp {t : TypeId} (hu : Tryd.prog.underlying t = some (.int .i64)) {n : Nat} {xs : List AV} (h : Shp Tryd.prog n t xs) : ∃ z : Int, xs = [.val (.int .i64 z)] ∧ (-9223372036854775808 ≤ z ∧ z ≤ 9223372036854775807) := by
  cases n with
  | zero => exact h.elim
  | succ n =>
    simp only [Shp, hu] at h
    obtain ⟨z, rfl, hw⟩ := h
    have h1 : IntKind.i64.min = -9223372036854775808 := rfl
    have h2 : IntKind.i64.max = 9223372036854775807 := rfl
    simp only [Lit.wf, Bool.and_eq_true, decide_eq_true_eq] at hw
    exact ⟨z, rfl, by omega⟩
theorem bool_shp {t : TypeId} (hu : Tryd.prog.underlying t = some .bool) {n : Nat} {xs : List AV} (h : Shp Tryd.prog n t xs) : ∃ b : Bool, xs = [.val (.bool b)] := by
  cases n with
  | zero => exact h.elim
  | succ n => simp only [Shp, hu] at h; exact h
theorem row_shp {t e : TypeId} (hu : Tryd.prog.underlying t = some (.slice e)) {n : Nat} {xs : List AV} (h : Shp Tryd.prog n t xs) : ∃ m es, n = m + 1 ∧ xs = [.sl es] ∧ es.length ≤ 9223372036854775807 ∧ ∀ c ∈ es, Shp Tryd.prog m e c := by
  cases n with
  | zero => exact h.elim
  | succ n =>
    simp only [Shp, hu] at h
    obtain ⟨es, rfl, hl, hc⟩ := h
    exact ⟨n, es, rfl, rfl, Nat.le_trans hl (by decide), hc⟩
theorem struct_shp {t : TypeId} {fs : Array Field} (hu : Tryd.prog.underlying t = some (.struct fs)) {n : Nat} {xs : List AV} (h : Shp Tryd.prog n t xs) : ∃ m, n = m + 1 ∧ xs.length = Tryd.prog.cellsOf t ∧ ∀ f ∈ fs.toList, Shp Tryd.prog m f.type ((xs.drop f.offset).take (Tryd.prog.cellsOf f.type)) := by
  cases n with
  | zero => exact h.elim
  | succ n => simp only [Shp, hu] at h; exact ⟨n, rfl, h⟩
theorem rows_ofP {α : Type} {cs : α → List AV} {M : α → Prop} : ∀ {es : List (List AV)}, (∀ c ∈ es, ∃ q, c = cs q ∧ M q) → ∃ l : List α, es = l.map cs ∧ ∀ q ∈ l, M q
  | [], _ => ⟨[], rfl, by simp⟩
  | e :: es, h => by
    obtain ⟨q, rfl, hq⟩ := h e (by simp)
    obtain ⟨l, rfl, hl⟩ := rows_ofP (es := es) fun c hc => h c (by simp [hc])
    exact ⟨q :: l, rfl, by simp [hq]; exact hl⟩

theorem len4 {α : Type} {l : List α} (h : l.length = 4) : ∃ a b c d, l = [a, b, c, d] := by
  match l, h with
  | [a, b, c, d], _ => exact ⟨a, b, c, d, rfl⟩
theorem len5 {α : Type} {l : List α} (h : l.length = 5) : ∃ a b c d e, l = [a, b, c, d, e] := by
  match l, h with
  | [a, b, c, d, e], _ => exact ⟨a, b, c, d, e, rfl⟩
theorem plain_all {P : Program} {S : List TypeId} (h : S.all (plainB P S) = true) : ∀ t ∈ S, plainB P S t = true := fun t ht => List.all_eq_true.1 h t ht

set_option maxRecDepth 100000

theorem pane_shp {n : Nat} {xs : List AV} (h : Shp Tryd.prog n 61 xs) : ∃ q : Pane, xs = q.cs := by
  obtain ⟨m, rfl, hl, hf⟩ := struct_shp Tryd.underlying61 h
  have hc : Tryd.prog.cellsOf 61 = 4 := by kernel_rfl
  have c3 : Tryd.prog.cellsOf 3 = 1 := by kernel_rfl
  have c4 : Tryd.prog.cellsOf 4 = 1 := by kernel_rfl
  rw [hc] at hl
  obtain ⟨a, b, c, d, rfl⟩ := len4 hl
  · skip
    simp only [List.forall_mem_cons, List.not_mem_nil, c3, c4, List.drop_succ_cons, List.drop_zero, List.take_succ_cons, List.take_zero] at hf
    obtain ⟨h1, h2, h3, h4, _⟩ := hf
    obtain ⟨w, h1, _⟩ := int_shp Tryd.underlying3 h1
    obtain ⟨hh, h2, _⟩ := int_shp Tryd.underlying3 h2
    obtain ⟨tu, h3⟩ := bool_shp Tryd.underlying4 h3
    obtain ⟨ki, h4, _⟩ := int_shp Tryd.underlying3 h4
    cases h1; cases h2; cases h3; cases h4
    exact ⟨⟨w, hh, tu, ki⟩, rfl⟩

section
open Go.ChangeShapes Go.WideShapes
variable {H : Type} {enc : TypeId × Value → H} {W : World} {r : Reach} {b0 : Nat} {v : Value} {d : DataW H} {p : List MemPlace}

end

end Go.Pc
