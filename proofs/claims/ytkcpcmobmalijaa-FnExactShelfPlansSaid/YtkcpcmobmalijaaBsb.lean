/- Rows of panes on sheets: the program's shelves. -/
import Derived.Test.YtkcpcmobmalijaaBsa
import Derived.Test.YtkcpcmobmalijaaAlv
set_option linter.unusedSimpArgs false
set_option linter.unusedVariables false
namespace Go.Pc
open Go Go.Proofs

theorem Work.frzB (r j : Nat) (es : List (List AV)) (w : Work) : frzL r j es w.cs = w.cs := freeL_frz r j es w.free
/-- The pane with an index. -/
def paneA (k : Work) (i : Int) : Pane := k.Ps.getD i.toNat ⟨0, 0, false, 0⟩
theorem paneA_get {k : Work} {i : Int} (h : 0 ≤ i ∧ i < k.Ps.length) : k.Ps[i.toNat]? = some (paneA k i) := by
  obtain ⟨q, hq⟩ := get_lt (l := k.Ps) (i := i.toNat) (by omega)
  rw [hq]; unfold paneA
  simp [List.getD_eq_getElem?_getD, hq]

/-- Falling heights, of equal ones the first one first. -/
def cmpS (k : Work) (x y : Int) : Int := if (paneA k y).H = (paneA k x).H then x - y else (paneA k y).H - (paneA k x).H
theorem cmpS_ok (k : Work) (D : Int → Prop) : CmpOk (cmpS k) D where
  asym x y _ _ h := by
    unfold cmpS at *
    split at h <;> split <;> omega
  trans x y z _ _ _ h1 h2 := by
    unfold cmpS at *
    split at h1 <;> split at h2 <;> split <;> omega
def OrdS (k : Work) (o : List Int) : Prop := o.Perm (upTo k.Ps.length) ∧ srt (cmpS k) o
theorem OrdS.uniq {k : Work} {o o' : List Int} (h : OrdS k o) (h' : OrdS k o') : o = o' :=
  List.Perm.eq_of_pairwise (le := fun x y => ¬ cmpS k y x < 0) (fun a b _ _ h1 h2 => by
    unfold cmpS at h1 h2
    split at h1 <;> split at h2 <;> omega) h.2 h'.2 (h.1.trans h'.1.symm)
theorem OrdS.mem {k : Work} {o : List Int} (h : OrdS k o) {i : Int} : i ∈ o ↔ 0 ≤ i ∧ i < k.Ps.length := by
  rw [h.1.mem_iff]
  unfold upTo
  rw [List.mem_map]
  exact ⟨fun ⟨n, h1, h2⟩ => by have := List.mem_range.1 h1; omega, fun hi => ⟨i.toNat, List.mem_range.2 (by omega), by omega⟩⟩
theorem OrdS.len {k : Work} {o : List Int} (h : OrdS k o) : o.length = k.Ps.length := by rw [h.1.length_eq, upTo_len]

/-- The panes fit the sheet, and may not be turned. -/
def plainW (k : Work) : Prop := k.ok ∧ ∀ q ∈ k.Ps, q.Tu = false ∧ q.W ≤ k.W ∧ q.H ≤ k.H
instance (k : Work) : Decidable (plainW k) := inferInstanceAs (Decidable (_ ∧ _))
theorem plainW.pane {k : Work} (h : plainW k) {i : Int} (hi : 0 ≤ i ∧ i < k.Ps.length) : (1 ≤ (paneA k i).W ∧ (paneA k i).W ≤ k.W) ∧ (1 ≤ (paneA k i).H ∧ (paneA k i).H ≤ k.H) ∧ (paneA k i).Tu = false := by
  have hm := List.mem_of_getElem? (paneA_get hi)
  have h1 := h.1.2.2.1 _ hm
  have h2 := h.2 _ hm
  unfold Pane.ok at h1
  exact ⟨⟨h1.1.1, h2.2.1⟩, ⟨h1.2.1.1, h2.2.2⟩, h2.1⟩

/-- What is laid so far: sheets that are done, rows of the last sheet that are done, the last row, what is left of it, and above it. -/
structure ShS where
  done : List (List (List Int))
  rows : List (List Int)
  row : List Int
  right : Int
  above : Int
def ShS.all (s : ShS) : List (List (List Int)) := if s.row = [] then s.done else s.done ++ [s.rows ++ [s.row]]
def ShS.step (k : Work) (s : ShS) (i : Int) : ShS :=
  if (paneA k i).W ≤ s.right then { s with row := s.row ++ [i], right := s.right - (paneA k i).W }
  else if (paneA k i).H ≤ s.above then { s with rows := s.rows ++ [s.row], row := [i], right := k.W - (paneA k i).W, above := s.above - (paneA k i).H }
  else ⟨s.all, [], [i], k.W - (paneA k i).W, k.H - (paneA k i).H⟩
def ShS.zero : ShS := ⟨[], [], [], 0, 0⟩
def shRun (k : Work) (o : List Int) : ShS := o.foldl (ShS.step k) .zero
theorem shRun_next (k : Work) {o : List Int} {j : Nat} {i : Int} (h : o[j]? = some i) : shRun k (o.take (j + 1)) = (shRun k (o.take j)).step k i := by
  unfold shRun
  rw [List.take_add_one, h, List.foldl_append]
  rfl
structure ShS.Ok (s : ShS) (j : Nat) : Prop where
  emp : s.row = [] → s.done = [] ∧ s.rows = [] ∧ s.right = 0 ∧ s.above = 0
  r : 0 ≤ s.right ∧ s.right ≤ 200
  a : 0 ≤ s.above ∧ s.above ≤ 200
  l : s.done.length ≤ j ∧ s.rows.length ≤ j ∧ s.row.length ≤ j
theorem ShS.all_len (s : ShS) : s.all.length ≤ s.done.length + 1 := by unfold ShS.all; split <;> simp
theorem ShS.zero_ok : ShS.zero.Ok 0 := ⟨fun _ => ⟨rfl, rfl, rfl, rfl⟩, by decide, by decide, by decide⟩
theorem ShS.step_ok {k : Work} (hk : plainW k) {s : ShS} {j : Nat} (h : s.Ok j) {i : Int} (hi : 0 ≤ i ∧ i < k.Ps.length) : (s.step k i).Ok (j + 1) := by
  obtain ⟨h1, h2, _⟩ := hk.pane hi
  have hw := hk.1
  unfold Work.ok at hw
  have ha := s.all_len
  obtain ⟨e, r, a, l⟩ := h
  unfold ShS.step
  split
  · exact ⟨fun hh => by simp at hh, by simp only []; omega, by simp only []; omega, by simp only [List.length_append, List.length_singleton]; omega⟩
  · split
    · exact ⟨fun hh => by simp at hh, by simp only []; omega, by simp only []; omega, by simp only [List.length_append, List.length_singleton]; omega⟩
    · refine ⟨fun hh => by simp at hh, by simp only []; omega, by simp only []; omega, ?_⟩
      simp only [List.length_nil, List.length_singleton]
      refine ⟨?_, by omega, by omega⟩
      unfold ShS.all
      split
      · omega
      · simp; omega

def rowV (r : List Int) : AV := .sl (ints r)
def sheetV (s : List (List Int)) : AV := .sl (s.map fun r => [rowV r])
def sheetsV (s : List (List (List Int))) : AV := .sl (s.map fun x => [sheetV x])

theorem e_shelves1 : Enters Try.prog 131 := enters_of Try.func131 (by kernel_rfl) (by kernel_rfl)
theorem shelves1_c (k : Work) (hk : plainW k) (x y : Int) (hx : 0 ≤ x ∧ x < k.Ps.length) (hy : 0 ≤ y ∧ y < k.Ps.length) (hxy : y < x) : ACalls Try.prog 131 [.val (.int .i64 x), .val (.int .i64 y), .ptr 0 0] [.cells k.cs] [0] (fun r L => ∃ c, r = .val (.int .i64 c) ∧ (c < 0 ↔ cmpS k x y < 0) ∧ L = [.cells k.cs]) := by
  have gx := paneA_get hx
  have gy := paneA_get hy
  have px := hk.pane hx
  have py := hk.pane hy
  have hw := hk.1
  unfold Work.ok at hw
  have hx0 : (0 ≤ x) = True := eq_true hx.1
  have hy0 : (0 ≤ y) = True := eq_true hy.1
  have hc : ((paneA k y).H - (paneA k x).H < 0 ↔ cmpS k x y < 0) := by unfold cmpS; split <;> omega
  generalize paneA k x = a at *
  generalize paneA k y = b at *
  refine acalls_tm T_tt Try.func131 rfl e_shelves1 16 rfl (W8 _ _ _ .any .any .any .any .any (W8 .any .any .any .any .any .any .any .any [.any, .any, .any])) rfl (rv := [.tmp 5]) rfl (sx_sound (bl := []) T_tt _ _ _ ?_)
  simp (disch := omega) only [SX0, SX1, SX2, SX3, SX4, SX5, SX6, SX7, SX8, SU0, SY0, SY1, Nat.reduceAdd, Nat.reduceMul, Nat.reduceSub, Nat.reduceLeDiff, Nat.reduceEqDiff, Nat.reduceLT, Nat.reduceBEq, ↓reduceIte, Int.reduceLE, Int.reduceLT, Int.reduceToNat, Int.reduceNeg, reduceCtorEq, Int.reduceEq, SF0, SF1, SF2, DHb0, DHb1, DHa0, DCg0, DCe0, DCe1, DCe2, DDb0, DBc0, DBc1, DDe0, DAlh0, DAlv0]
  refine awp_drawA T_tt mixed (by decide +kernel) (by kernel_rfl) (by kernel_rfl) ?_
  repeat' first | simp (disch := omega) only [SX0, SX1, SX2, SX3, SX4, SX5, SX6, SX7, SX8, SU0, SY0, SY1, Nat.reduceAdd, Nat.reduceMul, Nat.reduceSub, Nat.reduceLeDiff, Nat.reduceEqDiff, Nat.reduceLT, Nat.reduceBEq, ↓reduceIte, Int.reduceLE, Int.reduceLT, Int.reduceToNat, Int.reduceNeg, reduceCtorEq, Int.reduceEq, SF0, SF1, SF2, DHb0, DHb1, DHa0, DCg0, DCe0, DCe1, DCe2, DDb0, DBc0, DBc1, DDe0, DAlh0, DAlv0, gx, gy, hx0, hy0, Pane.cs] | refine req (by omega) ?_ | fail
  exact fin_zero (.val (.int .i64 (b.H - a.H))) (.cells k.cs) ⟨_, rfl, hc, rfl⟩ rfl (by simp [OB.ren, ← renL_map, Work.rend]) (by simp) (by simp)

end Go.Pc
