/- Bars as sheets of one row. -/
import Derived.Test.YtkcpcmobmalijaaBkg
import Derived.Test.YtkcpcmobmalijaaBsg
import Derived.Test.YtkcpcmobmalijaaBse
import Derived.Test.YtkcpcmobmalijaaIb
import Derived.Test.YtkcpcmobmalijaaHb
set_option linter.unusedSimpArgs false
set_option linter.unusedVariables false
namespace Go.Pc
open Go Go.Proofs

def barWork (l : List Int) (bar : Int) : Work := ⟨bar, 3, l.map fun w => ⟨w, 3, false, 0⟩⟩
theorem barWork_plain {l : List Int} {bar : Int} (h : okBars l bar 7) : plainW (barWork l bar) := by
  obtain ⟨h1, h2, h3⟩ := h
  have hp : ∀ q ∈ (barWork l bar).Ps, ∃ w ∈ l, q = ⟨w, 3, false, 0⟩ := fun q hq => by
    obtain ⟨w, hw, rfl⟩ := List.mem_map.1 hq
    exact ⟨w, hw, rfl⟩
  refine ⟨⟨h1, by simp [barWork], fun q hq => ?_, by simp [barWork]; omega⟩, fun q hq => ?_⟩
  · obtain ⟨w, hw, rfl⟩ := hp q hq
    have := h3 w hw
    exact ⟨⟨this.1, by simp only []; omega⟩, by simp, by simp⟩
  · obtain ⟨w, hw, rfl⟩ := hp q hq
    exact ⟨rfl, (h3 w hw).2, by simp [barWork]⟩
theorem barWork_pane {l : List Int} {bar : Int} {j : Nat} {x : Int} (h : l[j]? = some x) : paneA (barWork l bar) j = ⟨x, 3, false, 0⟩ := by
  have hj := (List.getElem?_eq_some_iff.1 h).1
  have h1 : (barWork l bar).Ps[(j : Int).toNat]? = some ⟨x, 3, false, 0⟩ := by
    simp only [barWork, Int.toNat_natCast, List.getElem?_map, h, Option.map_some]
  have h2 := paneA_get (k := barWork l bar) (i := (j : Int)) ⟨by omega, by simp [barWork]; omega⟩
  rw [h1] at h2
  exact (Option.some.inj h2).symm
theorem barWork_ord (l : List Int) (bar : Int) : OrdS (barWork l bar) (upTo l.length) := by
  refine ⟨by simp [barWork], ?_⟩
  unfold srt
  refine (upTo_asc l.length).imp_of_mem fun {a b} ha hb hab => ?_
  have h1 := mem_upTo.1 ha
  have h2 := mem_upTo.1 hb
  obtain ⟨i, rfl⟩ : ∃ i : Nat, a = i := ⟨a.toNat, by omega⟩
  obtain ⟨j, rfl⟩ : ∃ j : Nat, b = j := ⟨b.toNat, by omega⟩
  obtain ⟨x, hx⟩ := get_lt (l := l) (i := i) (by omega)
  obtain ⟨y, hy⟩ := get_lt (l := l) (i := j) (by omega)
  unfold cmpS
  rw [barWork_pane hx, barWork_pane hy]
  simp only [if_true]
  omega
theorem barWork_run {l : List Int} {bar : Int} (h : okBars l bar 7) : ∀ j, j ≤ l.length → (shRun (barWork l bar) ((upTo l.length).take j)).all.length = (gRun bar (l.take j)).1 ∧
    (shRun (barWork l bar) ((upTo l.length).take j)).right = (gRun bar (l.take j)).2 ∧ (shRun (barWork l bar) ((upTo l.length).take j)).above = 0 ∧ ((shRun (barWork l bar) ((upTo l.length).take j)).row = [] → (shRun (barWork l bar) ((upTo l.length).take j)).right = 0)
  | 0, _ => by
    rw [List.take_zero, List.take_zero]
    exact ⟨rfl, rfl, rfl, fun _ => rfl⟩
  | j + 1, hj => by
    obtain ⟨i1, i2, i3, i4⟩ := barWork_run h j (by omega)
    obtain ⟨x, hx⟩ := get_lt (l := l) (i := j) (by omega)
    have hxb := h.2.2 x (List.mem_of_getElem? hx)
    have hu : (upTo l.length)[j]? = some (j : Int) := by simp [upTo]; exact ⟨j, by rw [List.getElem?_range (by omega)], rfl⟩
    rw [shRun_next _ hu, gRun_next hx]
    generalize shRun (barWork l bar) ((upTo l.length).take j) = s at *
    generalize gRun bar (l.take j) = g at *
    have hp := barWork_pane (bar := bar) hx
    unfold ShS.step gStep
    rw [hp]
    simp only
    by_cases c : x ≤ s.right
    · rw [if_pos c, if_neg (by omega)]
      have hr : s.row ≠ [] := fun e => by have := i4 e; omega
      refine ⟨?_, by simp only []; omega, i3, fun e => by simp at e⟩
      rw [← i1]
      unfold ShS.all
      rw [if_neg hr, if_neg (by simp)]
      simp
    · rw [if_neg c, if_neg (by omega), if_pos (by omega)]
      refine ⟨?_, rfl, by simp [barWork], fun e => by simp at e⟩
      rw [← i1]
      rw [ShS.all, if_neg (by simp)]
      simp
theorem barWork_len {l : List Int} {bar : Int} (h : okBars l bar 7) : (shelfOf (barWork l bar) (upTo l.length)).length = (gRun bar l).1 := by
  have h1 := (barWork_run h l.length (Nat.le_refl _)).1
  rw [List.take_of_length_le (by rw [upTo_len]; exact Nat.le_refl _), List.take_length] at h1
  unfold shelfOf
  rw [if_pos (barWork_plain h)]
  unfold shelfPlansP
  rw [List.length_map, h1]

theorem barWork_area {l : List Int} {bar : Int} (h : okBars l bar 7) : 0 ≤ areaB (barWork l bar) ∧ areaB (barWork l bar) ≤ (mD (barsF l bar) (2 ^ l.length - 1) : Int) := by
  have hp := barWork_plain h
  have hd := (mD_ok (barsF_one h) (s := 2 ^ l.length - 1) (by have := Nat.two_pow_pos l.length; omega)).1.1
  have h1 := div_sum (F := barsF l bar) (l := l) (B := bar) (fun a ha => ha) hd
  rw [sumS_all] at h1
  have e1 : sumP arP (barWork l bar).Ps = l.sum * 3 := by
    unfold barWork sumP
    simp only [List.map_map]
    have : ∀ l : List Int, (l.map (arP ∘ fun w => (⟨w, 3, false, 0⟩ : Pane))).sum = l.sum * 3 := fun l => by
      induction l with
      | nil => rfl
      | cons x l ih => simp only [List.map_cons, List.sum_cons, ih, Function.comp, arP]; omega
    exact this l
  have h0 : 0 ≤ l.sum := by rw [← sumS_all]; exact (h.sum (by omega) _).1
  have hb := h.1
  unfold areaB
  rw [if_pos hp.1, e1]
  simp only [barWork]
  refine ⟨cdiv_nn (by omega) (by omega), cdiv_le (by omega) (by omega) ?_⟩
  rw [← Int.mul_assoc]
  omega
theorem barWork_scale {l : List Int} {bar : Int} (h : okBars l bar 7) : 0 ≤ scaleB (barWork l bar) 2 1 ∧ scaleB (barWork l bar) 2 1 ≤ (mD (barsF l bar) (2 ^ l.length - 1) : Int) := by
  have hp := barWork_plain h
  have hd := (mD_ok (barsF_one h) (s := 2 ^ l.length - 1) (by have := Nat.two_pow_pos l.length; omega)).1.1
  have hb := h.1
  have hl0 : ∀ x ∈ l, 0 ≤ x := fun x hx => by have := h.2.2 x hx; omega
  have h1 := div_sum (F := barsF l bar) (l := l.map (scl 2 bar)) (B := 2 * bar) (fun a ha => by
    have h2 := sumS_super (n := 2) (bar := bar) (by omega) (by omega) l hl0 a ha
    have h3 := scl_mono (n := 2) (bar := bar) (x := sumS l a) (y := bar) (by omega) (by omega) (sumS_nn l hl0 a) ha (by omega)
    rw [scl_bar (by omega) (by omega)] at h3
    omega) hd
  have h2 := sumS_all (l.map (scl 2 bar))
  rw [List.length_map] at h2
  rw [h2] at h1
  have e3 : scl 1 3 3 = 3 := by decide
  have e1 : sumP (sclP (barWork l bar) 2 1) (barWork l bar).Ps = (l.map (scl 2 bar)).sum * 3 := by
    have : ∀ l' : List Int, ((l'.map fun w => (⟨w, 3, false, 0⟩ : Pane)).map (sclP (barWork l bar) 2 1)).sum = (l'.map (scl 2 bar)).sum * 3 := fun l' => by
      induction l' with
      | nil => rfl
      | cons x l' ih =>
        have e4 : sclP (barWork l bar) 2 1 ⟨x, 3, false, 0⟩ = scl 2 bar x * scl 1 3 3 := rfl
        simp only [List.map_cons, List.sum_cons, ih, e4, e3]
        omega
    exact this l
  have h0 : 0 ≤ (l.map (scl 2 bar)).sum := by
    rw [← h2]
    refine sumS_nn _ (fun y hy => ?_) _
    obtain ⟨x, hx, rfl⟩ := List.mem_map.1 hy
    exact scl_nn (by omega) (by omega) (hl0 x hx)
  unfold scaleB
  rw [if_pos ⟨hp, by omega, by omega⟩, e1]
  simp only [barWork]
  refine ⟨cdiv_nn (by omega) (by omega), cdiv_le (by omega) (by omega) ?_⟩
  rw [Int.mul_one, ← Int.mul_assoc]
  omega
theorem barWork_few {l : List Int} {bar : Int} (h : okBars l bar 7) : mD (barsF l bar) (2 ^ l.length - 1) ≤ (gRun bar l).1 :=
  (mD_ok (barsF_one h) (s := 2 ^ l.length - 1) (by have := Nat.two_pow_pos l.length; omega)).1.2 _ (gRun_all h.2.2)

end Go.Pc
