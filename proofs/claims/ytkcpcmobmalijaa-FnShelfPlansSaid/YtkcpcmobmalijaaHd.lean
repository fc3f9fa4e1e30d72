/- Panes and waste are the glass. -/
import Derived.Test.YtkcpcmobmalijaaHc
set_option linter.unusedSimpArgs false
set_option linter.unusedVariables false
namespace Go.Pc
open Go Go.Proofs

def pane0 : Pane := ⟨0, 0, false, 0⟩
def Work.areaOf (k : Work) (j : Nat) : Int := ((k.Ps[j]?).getD pane0).W * ((k.Ps[j]?).getD pane0).H

theorem sum_add {α : Type} (f g : α → Int) : ∀ l : List α, (l.map fun x => f x + g x).sum = (l.map f).sum + (l.map g).sum
  | [] => by simp
  | x :: l => by simp only [List.map_cons, List.sum_cons, sum_add f g l]; omega
theorem sum_ite (A : Nat → Int) (m : Nat) : ∀ n, ((List.range n).map fun j => if m = j then A j else 0).sum = if m < n then A m else 0
  | 0 => by simp
  | n + 1 => by
    rw [List.range_succ, List.map_append, List.sum_append_int, sum_ite A m n]
    simp only [List.map_cons, List.map_nil, List.sum_cons, List.sum_nil]
    by_cases h1 : m < n
    · rw [if_pos h1, if_neg (by omega), if_pos (by omega)]; omega
    · by_cases h2 : m = n
      · subst h2; rw [if_neg h1, if_pos rfl, if_pos (by omega)]; omega
      · rw [if_neg h1, if_neg h2, if_neg (by omega)]; rfl
theorem sum_zero {α : Type} : ∀ l : List α, (l.map fun _ => (0 : Int)).sum = 0
  | [] => rfl
  | x :: l => by simp only [List.map_cons, List.sum_cons, sum_zero l]; rfl

/-- Counted by panes, or one by one. -/
theorem count_sum (n : Nat) (A : Nat → Int) : ∀ l : List Place, (∀ q ∈ l, 0 ≤ q.pa ∧ q.pa < n) → ((List.range n).map fun (j : Nat) => ((l.countP (fun q : Place => decide (q.pa = (j : Int))) : Nat) : Int) * A j).sum = (l.map fun q => A q.pa.toNat).sum
  | [], _ => by simp [sum_zero]
  | q :: l, h => by
    have ih := count_sum n A l fun y hy => h y (by simp [hy])
    have hq := h q (by simp)
    have e : ∀ j : Nat, (((q :: l).countP (fun q : Place => decide (q.pa = (j : Int))) : Nat) : Int) * A j = ((l.countP (fun q : Place => decide (q.pa = (j : Int))) : Nat) : Int) * A j + if q.pa.toNat = j then A j else 0 := fun j => by
      rw [List.countP_cons]
      by_cases hj : q.pa.toNat = j
      · have : q.pa = (j : Int) := by omega
        rw [if_pos hj, if_pos (by simpa using this)]
        rw [Int.natCast_add, Int.add_mul]; simp
      · have : ¬ q.pa = (j : Int) := by omega
        rw [if_neg hj, if_neg (by simpa using this)]
        simp
    simp only [e]
    rw [sum_add, ih, sum_ite, if_pos (by omega), List.map_cons, List.sum_cons]
    omega

theorem fills_area {k : Work} {pa : Int} {tu : Bool} {w h : Int} (hf : fills k pa tu w h = true) : k.areaOf pa.toNat = w * h := by
  have h0 : 0 ≤ pa ∧ pa ≤ (k.Ps.length : Int) - 1 := Classical.byContradiction fun hn => by rw [fills_out k _ _ _ _ hn] at hf; cases hf
  obtain ⟨q, hq⟩ := get_lt (l := k.Ps) (i := pa.toNat) (by omega)
  rw [fills_in hq h0.1] at hf
  unfold Work.areaOf
  rw [hq]
  simp only [Option.getD_some]
  cases tu
  · simp at hf; rw [hf.1, hf.2]
  · simp at hf; rw [hf.1.2, hf.2, Int.mul_comm]

/-- The areas of panes and waste are the area of the glass. -/
theorem Plan.area_sum (k : Work) : ∀ (p : Plan), p.wf = true → ∀ b : Box, p.fits k b.W b.H = true → ((p.wastes b).map Box.area).sum + ((p.places b).map fun q => k.areaOf q.pa.toNat).sum = b.W * b.H :=
  Plan.wf_ind (fun p hw hc b hf => by
    unfold Plan.places Plan.wastes
    rw [Plan.parts_leaf hc]
    have hg := ((Plan.wf_iff p).1 hw).1
    unfold Plan.good at hg
    rw [if_neg hc] at hg
    rcases hg.2.2 with h1 | h0
    · rw [Plan.fits_pane k p _ _ h1] at hf
      have h2 : ¬ p.op = 0 := by omega
      simp [placeOf, wasteOf, h1, h2, fills_area hf]
    · have h1 : ¬ p.op = 1 := by omega
      simp [placeOf, wasteOf, h0.1, h1, Box.area]) (fun p x y hw hc hk hx hy ix iy b hf => by
    obtain ⟨f1, f2, _⟩ := Plan.fits_cut hc hk hf
    have i1 := ix _ f1
    have i2 := iy _ f2
    have h1 : placeOf (p, b) = none := by
      unfold placeOf
      rw [if_neg]
      simp only
      unfold Plan.cut at hc
      omega
    have h2 : wasteOf (p, b) = none := by
      unfold wasteOf
      rw [if_neg]
      simp only
      unfold Plan.cut at hc
      omega
    unfold Plan.places Plan.wastes at *
    rw [Plan.parts_cut hc hk]
    simp only [List.filterMap_cons, h1, h2, List.filterMap_append, List.map_append, List.sum_append_int]
    have e : (p.split b).1.W * (p.split b).1.H + (p.split b).2.W * (p.split b).2.H = b.W * b.H := by
      unfold Plan.split
      by_cases h : p.op = 2
      · simp only [if_pos h]
        rw [← Int.add_mul]; congr 1; omega
      · simp only [if_neg h]
        rw [← Int.mul_add]; congr 1; omega
    omega)

/-- The areas of the panes, as often as they are used. -/
def Work.usesOf (k : Work) (l : List Place) : List Int := (List.range k.Ps.length).map fun (j : Nat) => ((l.countP (fun q : Place => decide (q.pa = (j : Int))) : Nat) : Int) * ((k.Ps[j]?).getD pane0).W * ((k.Ps[j]?).getD pane0).H
theorem usesOf_sum {k : Work} {l : List Place} (h : ∀ q ∈ l, 0 ≤ q.pa ∧ q.pa < k.Ps.length) : (k.usesOf l).sum = (l.map fun q => k.areaOf q.pa.toNat).sum := by
  rw [← count_sum k.Ps.length k.areaOf l h]
  unfold Work.usesOf Work.areaOf
  congr 1
  refine List.map_congr_left fun j _ => ?_
  rw [Int.mul_assoc]
theorem usesOf_get {k : Work} {l : List Place} {j : Nat} {q : Pane} {c : Int} (hq : k.Ps[j]? = some q) (hc : (cnts k.Ps.length l)[j]? = some c) : (k.usesOf l)[j]? = some (c * q.W * q.H) := by
  have hj := (List.getElem?_eq_some_iff.1 hq).1
  rw [cnts_get hj] at hc
  cases hc
  simp only [Work.usesOf, List.getElem?_map, List.getElem?_range hj, Option.map_some, hq, Option.getD_some]

theorem cnts_sum {n : Nat} {l : List Place} (h : ∀ q ∈ l, 0 ≤ q.pa ∧ q.pa < n) : (cnts n l).sum = l.length := by
  have := count_sum n (fun _ => 1) l h
  simp only [Int.mul_one] at this
  unfold cnts
  rw [this]
  clear this h
  induction l with
  | nil => rfl
  | cons x l ih => simp only [List.map_cons, List.sum_cons, ih, List.length_cons]; omega

end Go.Pc
