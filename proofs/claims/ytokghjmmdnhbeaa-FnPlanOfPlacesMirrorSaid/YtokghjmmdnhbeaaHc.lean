/- How often each pane is in a plan. -/
import Derived.Test.YtokghjmmdnhbeaaHb
set_option linter.unusedSimpArgs false
set_option linter.unusedVariables false
namespace Go.Pc
open Go Go.Proofs

/-- How often each number below n is told. -/
def cnts (n : Nat) (l : List Place) : List Int := (List.range n).map fun (j : Nat) => ((l.countP (fun q : Place => decide (q.pa = (j : Int))) : Nat) : Int)
theorem cnts_len (n : Nat) (l : List Place) : (cnts n l).length = n := by simp [cnts]
theorem cnts_nil (n : Nat) : cnts n [] = List.replicate n 0 := by
  refine List.ext_getElem? fun i => ?_
  simp only [cnts, List.getElem?_map, List.getElem?_replicate, List.countP_nil]
  by_cases h : i < n
  · rw [List.getElem?_range h, if_pos h]; rfl
  · rw [List.getElem?_eq_none (by simp; omega), if_neg h]; rfl
theorem cnts_get {n : Nat} {l : List Place} {j : Nat} (h : j < n) : (cnts n l)[j]? = some ((l.countP (fun q : Place => decide (q.pa = (j : Int))) : Nat) : Int) := by
  simp only [cnts, List.getElem?_map, List.getElem?_range h]; rfl
theorem cnts_next {n : Nat} {l : List Place} {q : Place} (h : 0 ≤ q.pa ∧ q.pa < n) {c : Int} (hc : (cnts n l)[q.pa.toNat]? = some c) : cnts n (l ++ [q]) = (cnts n l).set q.pa.toNat (c + 1) := by
  refine List.ext_getElem? fun i => ?_
  by_cases hi : i < n
  · rw [cnts_get hi, List.getElem?_set, cnts_len, List.countP_append]
    by_cases e : q.pa.toNat = i
    · subst e
      rw [cnts_get hi] at hc
      cases hc
      have e1 : q.pa = ((q.pa.toNat : Nat) : Int) := by omega
      rw [if_pos rfl, if_pos hi]
      simp only [List.countP_cons, List.countP_nil, decide_eq_true e1]
      simp
    · have e1 : ¬ q.pa = (i : Int) := by omega
      rw [if_neg e, cnts_get hi]
      simp [List.countP_cons, e1]
  · rw [List.getElem?_eq_none (by rw [cnts_len]; omega), List.getElem?_eq_none (by rw [List.length_set, cnts_len]; omega)]
theorem cnts_le {n : Nat} {l : List Place} : ∀ x ∈ cnts n l, 0 ≤ x ∧ x ≤ l.length := fun x hx => by
  obtain ⟨j, _, rfl⟩ := List.mem_map.1 hx
  have : l.countP (fun q : Place => decide (q.pa = (j : Int))) ≤ l.length := List.countP_le_length
  omega
theorem ints_set (l : List Int) (i : Nat) (x : Int) : (ints l).set i [.val (.int .i64 x)] = ints (l.set i x) := by simp [ints, List.map_set]

theorem places_le {p : Plan} {k : Work} (hv : p.valid k) : (p.places k.sheet).length ≤ 255 := Nat.le_trans (List.length_filterMap_le _ _) (by rw [Plan.parts_len p hv.2.1.1]; exact hv.2.1.2)
theorem vparts_valid {p : Plan} {k : Work} (hv : p.valid k) : (p.vparts k).filterMap placeOf = p.places k.sheet := by unfold Plan.vparts; rw [if_pos hv]; rfl

/-- What UsedOf tells. -/
def Plan.used (p : Plan) (k : Work) : List Int := if p.valid k then cnts k.Ps.length (p.places k.sheet) else []

end Go.Pc
