/- Plans that are found from places: what they are; the law that each plan can be found again. -/
import Derived.Test.YtokghjmmdnhbeaaZf
import Derived.Test.YtokghjmmdnhbeaaMb
set_option linter.unusedSimpArgs false
set_option linter.unusedVariables false
namespace Go.Pc
open Go Go.Proofs

open Classical in
noncomputable def loFree (l : List Place) (b : Box) (op : Int) : Nat := if ∃ q ∈ l, q.lowE op = b.fr op then 0 else 1
open Classical in
noncomputable def hiFree (l : List Place) (b : Box) (op : Int) : Nat := if ∃ q ∈ l, q.highE op = b.to_ op then 0 else 1
/-- On how many sides there is glass that no place touches. -/
noncomputable def freeS (l : List Place) (b : Box) : Nat := loFree l b 2 + hiFree l b 2 + loFree l b 3 + hiFree l b 3
theorem loFree_le (l : List Place) (b : Box) (op : Int) : loFree l b op ≤ 1 := by unfold loFree; split <;> omega
theorem hiFree_le (l : List Place) (b : Box) (op : Int) : hiFree l b op ≤ 1 := by unfold hiFree; split <;> omega
theorem freeS_le (l : List Place) (b : Box) : freeS l b ≤ 4 := by
  unfold freeS
  have := loFree_le l b 2; have := loFree_le l b 3; have := hiFree_le l b 2; have := hiFree_le l b 3
  omega
theorem loFree_eq (l : List Place) {b c : Box} {op : Int} (h : b.fr op = c.fr op) : loFree l b op = loFree l c op := by unfold loFree; rw [h]
theorem hiFree_eq (l : List Place) {b c : Box} {op : Int} (h : b.to_ op = c.to_ op) : hiFree l b op = hiFree l c op := by unfold hiFree; rw [h]
theorem trim_lo {l : List Place} {b : Box} {op a : Int} (ho : op = 2 ∨ op = 3) (hf : IsCut l b op a) (he : ∀ q ∈ l, ¬ q.highE op ≤ a) : freeS l (b.hi op a) + 1 ≤ freeS l b := by
  obtain ⟨h1, h2, ⟨q, hq, h3⟩, h4⟩ := hf
  have e1 : loFree l b op = 1 := by
    unfold loFree
    rw [if_neg]
    rintro ⟨r, hr, h5⟩
    exact h4 r hr ⟨by omega, by have := he r hr; omega⟩
  have e2 : loFree l (b.hi op a) op = 0 := by
    unfold loFree
    rw [if_pos]
    refine ⟨q, hq, ?_⟩
    have hh := he q hq
    have e : (b.hi op a).fr op = a := by unfold Box.hi Box.fr; split <;> rfl
    rw [e]; omega
  unfold freeS
  rcases ho with rfl | rfl
  · rw [e1, e2, hiFree_eq l (show (b.hi 2 a).to_ 2 = b.to_ 2 by simp [Box.hi, Box.to_]; omega), loFree_eq l (show (b.hi 2 a).fr 3 = b.fr 3 by simp [Box.hi, Box.fr]), hiFree_eq l (show (b.hi 2 a).to_ 3 = b.to_ 3 by simp [Box.hi, Box.to_])]
    omega
  · rw [e1, e2, hiFree_eq l (show (b.hi 3 a).to_ 3 = b.to_ 3 by simp [Box.hi, Box.to_]; omega), loFree_eq l (show (b.hi 3 a).fr 2 = b.fr 2 by simp [Box.hi, Box.fr]), hiFree_eq l (show (b.hi 3 a).to_ 2 = b.to_ 2 by simp [Box.hi, Box.to_])]
    omega
theorem trim_hi {l : List Place} {b : Box} {op a : Int} (hin : InG l b) (ho : op = 2 ∨ op = 3) (hf : IsCut l b op a) (he : ∀ q ∈ l, q.highE op ≤ a) : freeS l (b.lo op a) + 1 ≤ freeS l b := by
  obtain ⟨h1, h2, ⟨q, hq, h3⟩, h4⟩ := hf
  have e1 : hiFree l b op = 1 := by
    unfold hiFree
    rw [if_neg]
    rintro ⟨r, hr, h5⟩
    have := he r hr
    omega
  have e2 : hiFree l (b.lo op a) op = 0 := by
    unfold hiFree
    rw [if_pos]
    refine ⟨q, hq, ?_⟩
    have hh := he q hq
    have hi := hin q hq op
    have e : (b.lo op a).to_ op = a := by unfold Box.lo Box.to_; split <;> (simp only; omega)
    rw [e]; omega
  unfold freeS
  rcases ho with rfl | rfl
  · rw [e1, e2, loFree_eq l (show (b.lo 2 a).fr 2 = b.fr 2 by simp [Box.lo, Box.fr]), loFree_eq l (show (b.lo 2 a).fr 3 = b.fr 3 by simp [Box.lo, Box.fr]), hiFree_eq l (show (b.lo 2 a).to_ 3 = b.to_ 3 by simp [Box.lo, Box.to_])]
    omega
  · rw [e1, e2, loFree_eq l (show (b.lo 3 a).fr 3 = b.fr 3 by simp [Box.lo, Box.fr]), loFree_eq l (show (b.lo 3 a).fr 2 = b.fr 2 by simp [Box.lo, Box.fr]), hiFree_eq l (show (b.lo 3 a).to_ 2 = b.to_ 2 by simp [Box.lo, Box.to_])]
    omega

theorem wf_leaf1 (pa : Int) (tu : Bool) : (Plan.mk 1 0 pa tu []).wf = true := by
  rw [Plan.wf_iff]
  refine ⟨?_, fun q hq => by simp [Plan.ks] at hq⟩
  simp [Plan.good, Plan.cut, Plan.op, Plan.ks, Plan.at_]
theorem wf_zero : Plan.zero.wf = true := by
  rw [Plan.wf_iff]
  refine ⟨?_, fun q hq => by simp [Plan.zero, Plan.ks] at hq⟩
  simp [Plan.zero, Plan.good, Plan.cut, Plan.op, Plan.ks, Plan.at_, Plan.pa, Plan.tu]
theorem wf_cut {op at_ : Int} (ho : op = 2 ∨ op = 3) {x y : Plan} (hx : x.wf = true) (hy : y.wf = true) : (Plan.mk op at_ 0 false [x, y]).wf = true := by
  rw [Plan.wf_iff]
  refine ⟨?_, fun q hq => by simp [Plan.ks] at hq; rcases hq with rfl | rfl <;> assumption⟩
  rcases ho with rfl | rfl <;> simp [Plan.good, Plan.cut, Plan.op, Plan.ks, Plan.pa, Plan.tu]

/-- What is found is a plan for the glass with these places. -/
theorem pf_plan (k : Work) {l : List Place} {b : Box} {r : Option Plan} (h : PF l b r) : InG l b → (∀ q ∈ l, fills k q.pa q.tu q.box.W q.box.H = true) → ∀ p, r = some p → p.wf = true ∧ p.fits k b.W b.H = true ∧ (p.places b).Perm l ∧ (l = [] → p.nodes = 1) ∧ (l ≠ [] → p.nodes + 17 ≤ 18 * l.length + 2 * freeS l b) := by
  induction h with
  | nil b =>
    intro _ _ p hp
    cases hp
    refine ⟨wf_zero, Plan.fits_else k _ _ _ (by simp [Plan.zero, Plan.op]) (by simp [Plan.zero, Plan.op]) (by simp [Plan.zero, Plan.op]), ?_, fun _ => ?_, fun h => absurd rfl h⟩
    · unfold Plan.places
      rw [Plan.parts_leaf (by simp [Plan.cut, Plan.zero, Plan.op])]
      simp [placeOf, Plan.zero, Plan.op]
    · exact Plan.nodes_leaf wf_zero (by simp [Plan.cut, Plan.zero, Plan.op])
  | one q b hb =>
    intro _ hf p hp
    cases hp
    subst hb
    refine ⟨wf_leaf1 _ _, ?_, ?_, fun h => (by cases h), fun _ => ?_⟩
    · rw [Plan.fits_pane k _ _ _ rfl]; exact hf q (by simp)
    · unfold Plan.places
      rw [Plan.parts_leaf (by simp [Plan.cut, Plan.op])]
      simp [placeOf, Plan.op, Plan.pa, Plan.tu]
    · rw [Plan.nodes_leaf (wf_leaf1 _ _) (by simp [Plan.cut, Plan.op])]; simp
  | none l b h1 h2 h3 h4 => intro _ _ p hp; cases hp
  | cut op a l b r1 r2 h1 h2 hf _ _ i1 i2 =>
    intro hin hfi p hp
    have hc := hf.1
    have ho : op = 2 ∨ op = 3 := by rcases hf.2.2 with h | h; exact .inl h; exact .inr h.1
    obtain ⟨c1, c2, c3, c4⟩ := id hc
    cases r1 with
    | none => simp [combP] at hp
    | some p1 =>
    cases r2 with
    | none => simp [combP] at hp
    | some p2 =>
    simp only [combP, Option.some.injEq] at hp
    subst hp
    obtain ⟨w1, f1, m1, z1, n1⟩ := i1 (hin.lows c1 c2) (fun q hq => hfi q (lows_sub hq)) p1 rfl
    obtain ⟨w2, f2, m2, z2, n2⟩ := i2 (hin.highs c1 c2 c4) (fun q hq => hfi q (highs_sub hq)) p2 rfl
    have e1 : ((Plan.mk op (a - b.fr op) 0 false [p1, p2]).split b).1 = b.lo op a := by
      rcases ho with rfl | rfl <;> simp [Plan.split, Box.lo, Box.fr, Plan.op, Plan.at_]
    have e2 : ((Plan.mk op (a - b.fr op) 0 false [p1, p2]).split b).2 = b.hi op a := by
      rcases ho with rfl | rfl <;> (simp [Plan.split, Box.hi, Box.fr, Plan.op, Plan.at_]; omega)
    have hcut : (Plan.mk op (a - b.fr op) 0 false [p1, p2]).cut := by unfold Plan.cut; exact ho
    have hnn : placeOf (Plan.mk op (a - b.fr op) 0 false [p1, p2], b) = none := by unfold placeOf; rw [if_neg]; simp only [Plan.op]; omega
    have hlen : (lows op a l).length + (highs op a l).length = l.length := by
      have := (List.filter_append_perm (fun q : Place => decide (q.highE op ≤ a)) l).length_eq
      rw [List.length_append] at this
      exact this
    refine ⟨wf_cut ho w1 w2, ?_, ?_, fun h => absurd h h1, fun _ => ?_⟩
    · rw [Plan.fits_split hcut rfl (by simp only [Plan.at_]; omega) (fun h => ?_) (fun h => ?_), e1, e2, f1, f2]; rfl
      · simp only [Plan.op] at h; subst h; simp only [Plan.at_]; unfold Box.fr; unfold Box.to_ at c2; rw [if_neg (by omega)] at *; omega
      · simp only [Plan.op] at h; have : op = 3 := by omega
        subst this; simp only [Plan.at_]; unfold Box.fr; unfold Box.to_ at c2; rw [if_pos rfl] at *; omega
    · unfold Plan.places
      rw [Plan.parts_cut hcut rfl, List.filterMap_cons, hnn, List.filterMap_append, e1, e2]
      exact (m1.append m2).trans (List.filter_append_perm (fun q : Place => decide (q.highE op ≤ a)) l)
    · rw [Plan.nodes_two (x := p1) (y := p2) rfl]
      by_cases hl : lows op a l = []
      · have he : ∀ q ∈ l, ¬ q.highE op ≤ a := fun q hq hh => by
          have : q ∈ lows op a l := List.mem_filter.2 ⟨hq, decide_eq_true hh⟩
          rw [hl] at this; cases this
        have hh : highs op a l = l := List.filter_eq_self.2 fun q hq => by simpa using he q hq
        have := trim_lo ho hc he
        have := z1 hl
        rw [hh] at n2
        have := n2 h1
        omega
      by_cases hh : highs op a l = []
      · have he : ∀ q ∈ l, q.highE op ≤ a := fun q hq => Classical.byContradiction fun hn => by
          have : q ∈ highs op a l := List.mem_filter.2 ⟨hq, by simpa using hn⟩
          rw [hh] at this; cases this
        have hl : lows op a l = l := List.filter_eq_self.2 fun q hq => decide_eq_true (he q hq)
        have := trim_hi hin ho hc he
        have := z2 hh
        rw [hl] at n1
        have := n1 h1
        omega
      · have := n1 hl
        have := n2 hh
        have := freeS_le (lows op a l) (b.lo op a)
        have := freeS_le (highs op a l) (b.hi op a)
        omega

theorem PF.valid {k : Work} {l : List Place} {p : Plan} (ho : placesOk k l) (h : PF l k.sheet (some p)) : p.valid k ∧ (p.places k.sheet).Perm l := by
  have hin : InG l k.sheet := inside_InG fun q hq => (ho.2.1 q hq).2.1
  obtain ⟨h1, h2, h3, h4, h5⟩ := pf_plan k h hin (fun q hq => (ho.2.1 q hq).2.2) p rfl
  refine ⟨⟨ho.1.1, ⟨h1, ?_⟩, h2⟩, h3⟩
  by_cases e : l = []
  · rw [h4 e]; omega
  · have := h5 e
    have := freeS_le l k.sheet
    have := ho.1.2
    omega

theorem e_fnPlanOfPlacesOf : Enters Try.prog 3 := enters_of Try.func3 (by kernel_rfl) (by kernel_rfl)
set_option maxRecDepth 8000 in
set_option maxHeartbeats 4000000 in
theorem fnPlanOfPlacesOf_c : LawC 3 := by
  intro xs hx hl
  refine acalls_tm T_tt Try.func3 rfl e_fnPlanOfPlacesOf 68 rfl (W8 _ .any .any .any .any .any .any .any (W8 .any .any .any .any .any .any .any .any (W8 .any .any .any .any .any .any .any .any (W8 .any .any .any .any .any .any .any .any (W8 .any .any .any .any .any .any .any .any (W8 .any .any .any .any .any .any .any .any (W8 .any .any .any .any .any .any .any .any (W8 .any .any .any .any .any .any .any .any [.any, .any, .any, .any, .any])))))))) rfl (rv := [.tmp 2]) rfl (sx_sound (bl := []) T_tt _ _ _ ?_)
  simp (disch := omega) only [SX0, SX1, SX2, SX3, SX4, SX5, SX6, SX7, SX8, SU0, SY0, Nat.reduceAdd, Nat.reduceMul, Nat.reduceSub, Nat.reduceLeDiff, Nat.reduceEqDiff, Nat.reduceLT, Nat.reduceBEq, ↓reduceIte, Int.reduceLE, Int.reduceLT, Int.reduceToNat, Int.reduceNeg, reduceCtorEq, Int.reduceEq, SF0, SF1, SF2, DZc0, DWb0, DWa0, DLa0, DCg0, DCe0, DCe1, DCe2, DDb0, DBc0, DBc1, DKa0, DHb0, DHb1, DHa0, DDe0, DWc0, bysLen]
  refine br_dec (fun h1 => ?_) (fun h1 => ?_)
  · simp (disch := omega) only [SX0, SX1, SX2, SX3, SX4, SX5, SX6, SX7, SX8, SU0, SY0, Nat.reduceAdd, Nat.reduceMul, Nat.reduceSub, Nat.reduceLeDiff, Nat.reduceEqDiff, Nat.reduceLT, Nat.reduceBEq, ↓reduceIte, Int.reduceLE, Int.reduceLT, Int.reduceToNat, Int.reduceNeg, reduceCtorEq, Int.reduceEq, SF0, SF1, SF2, DZc0, DWb0, DWa0, DLa0, DCg0, DCe0, DCe1, DCe2, DDb0, DBc0, DBc1, DKa0, DHb0, DHb1, DHa0, DDe0, DWc0]
    exact fin_val ⟨rfl, rfl⟩
  simp (disch := omega) only [SX0, SX1, SX2, SX3, SX4, SX5, SX6, SX7, SX8, SU0, SY0, Nat.reduceAdd, Nat.reduceMul, Nat.reduceSub, Nat.reduceLeDiff, Nat.reduceEqDiff, Nat.reduceLT, Nat.reduceBEq, ↓reduceIte, Int.reduceLE, Int.reduceLT, Int.reduceToNat, Int.reduceNeg, reduceCtorEq, Int.reduceEq, SF0, SF1, SF2, DZc0, DWb0, DWa0, DLa0, DCg0, DCe0, DCe1, DCe2, DDb0, DBc0, DBc1, DKa0, DHb0, DHb1, DHa0, DDe0, DWc0]
  refine acall_own (drawPlacesOf_c xs hx) [] [] (by simp only [SX0, SX1, SX2, SX3, SX4, SX5, SX6, SX7, SX8, SU0, SY0, Nat.reduceAdd, Nat.reduceMul, Nat.reduceSub, Nat.reduceLeDiff, Nat.reduceEqDiff, Nat.reduceLT, Nat.reduceBEq, ↓reduceIte, Int.reduceLE, Int.reduceLT, Int.reduceToNat, Int.reduceNeg, reduceCtorEq, Int.reduceEq, SF0, SF1, SF2, DZc0, DWb0, DWa0, DLa0, DCg0, DCe0, DCe1, DCe2, DDb0, DBc0, DBc1, DKa0, DHb0, DHb1, DHa0, DDe0, DWc0, SX0]) (by decide) (by decide) (by rfl) (by simp only [SX0, SX1, SX2, SX3, SX4, SX5, SX6, SX7, SX8, SU0, SY0, Nat.reduceAdd, Nat.reduceMul, Nat.reduceSub, Nat.reduceLeDiff, Nat.reduceEqDiff, Nat.reduceLT, Nat.reduceBEq, ↓reduceIte, Int.reduceLE, Int.reduceLT, Int.reduceToNat, Int.reduceNeg, reduceCtorEq, Int.reduceEq, SF0, SF1, SF2, DZc0, DWb0, DWa0, DLa0, DCg0, DCe0, DCe1, DCe2, DDb0, DBc0, DBc1, DKa0, DHb0, DHb1, DHa0, DDe0, DWc0, SX0]) ?_
  rintro _ _ ⟨rfl, k, p, rfl, hk, hp⟩
  have hk24 := hk.2.2.1
  have hkl : k.Ps.length < 2 ^ 40 := by omega
  have P1 := placesOfI_c k p hkl
  have P2 := placesOfSS_c k p hkl
  have hlen : ((p.vparts k).filterMap placeOf).length ≤ 255 := Nat.le_trans (List.length_filterMap_le _ _) (vparts_len p k)
  have Q := equalPlaces_c ((p.vparts k).filterMap placeOf) (by omega)
  simp (disch := omega) only [SX0, SX1, SX2, SX3, SX4, SX5, SX6, SX7, SX8, SU0, SY0, Nat.reduceAdd, Nat.reduceMul, Nat.reduceSub, Nat.reduceLeDiff, Nat.reduceEqDiff, Nat.reduceLT, Nat.reduceBEq, ↓reduceIte, Int.reduceLE, Int.reduceLT, Int.reduceToNat, Int.reduceNeg, reduceCtorEq, Int.reduceEq, SF0, SF1, SF2, DZc0, DWb0, DWa0, DLa0, DCg0, DCe0, DCe1, DCe2, DDb0, DBc0, DBc1, DKa0, DHb0, DHb1, DHa0, DDe0, DWc0]
  refine acall_one P1 (by simp [freeL, AV.free, Plan.free, Work.free]) rfl ?_
  simp (disch := omega) only [SX0, SX1, SX2, SX3, SX4, SX5, SX6, SX7, SX8, SU0, SY0, Nat.reduceAdd, Nat.reduceMul, Nat.reduceSub, Nat.reduceLeDiff, Nat.reduceEqDiff, Nat.reduceLT, Nat.reduceBEq, ↓reduceIte, Int.reduceLE, Int.reduceLT, Int.reduceToNat, Int.reduceNeg, reduceCtorEq, Int.reduceEq, SF0, SF1, SF2, DZc0, DWb0, DWa0, DLa0, DCg0, DCe0, DCe1, DCe2, DDb0, DBc0, DBc1, DKa0, DHb0, DHb1, DHa0, DDe0, DWc0]
  refine acall_one P2 (by simp [freeL, AV.free, Plan.free, Work.free]) rfl ?_
  simp (disch := omega) only [SX0, SX1, SX2, SX3, SX4, SX5, SX6, SX7, SX8, SU0, SY0, Nat.reduceAdd, Nat.reduceMul, Nat.reduceSub, Nat.reduceLeDiff, Nat.reduceEqDiff, Nat.reduceLT, Nat.reduceBEq, ↓reduceIte, Int.reduceLE, Int.reduceLT, Int.reduceToNat, Int.reduceNeg, reduceCtorEq, Int.reduceEq, SF0, SF1, SF2, DZc0, DWb0, DWa0, DLa0, DCg0, DCe0, DCe1, DCe2, DDb0, DBc0, DBc1, DKa0, DHb0, DHb1, DHa0, DDe0, DWc0]
  refine acall_one Q (by simp [freeL, AV.free, Plan.free, Work.free]) rfl ?_
  simp (disch := omega) only [SX0, SX1, SX2, SX3, SX4, SX5, SX6, SX7, SX8, SU0, SY0, Nat.reduceAdd, Nat.reduceMul, Nat.reduceSub, Nat.reduceLeDiff, Nat.reduceEqDiff, Nat.reduceLT, Nat.reduceBEq, ↓reduceIte, Int.reduceLE, Int.reduceLT, Int.reduceToNat, Int.reduceNeg, reduceCtorEq, Int.reduceEq, SF0, SF1, SF2, DZc0, DWb0, DWa0, DLa0, DCg0, DCe0, DCe1, DCe2, DDb0, DBc0, DBc1, DKa0, DHb0, DHb1, DHa0, DDe0, DWc0]
  refine acall_one (validPlanI_c k p hkl) (by simp [freeL, AV.free, Plan.free, Work.free]) rfl ?_
  simp (disch := omega) only [SX0, SX1, SX2, SX3, SX4, SX5, SX6, SX7, SX8, SU0, SY0, Nat.reduceAdd, Nat.reduceMul, Nat.reduceSub, Nat.reduceLeDiff, Nat.reduceEqDiff, Nat.reduceLT, Nat.reduceBEq, ↓reduceIte, Int.reduceLE, Int.reduceLT, Int.reduceToNat, Int.reduceNeg, reduceCtorEq, Int.reduceEq, SF0, SF1, SF2, DZc0, DWb0, DWa0, DLa0, DCg0, DCe0, DCe1, DCe2, DDb0, DBc0, DBc1, DKa0, DHb0, DHb1, DHa0, DDe0, DWc0]
  refine br_ndec (fun hv => ?_) (fun hv => ?_)
  · simp (disch := omega) only [SX0, SX1, SX2, SX3, SX4, SX5, SX6, SX7, SX8, SU0, SY0, Nat.reduceAdd, Nat.reduceMul, Nat.reduceSub, Nat.reduceLeDiff, Nat.reduceEqDiff, Nat.reduceLT, Nat.reduceBEq, ↓reduceIte, Int.reduceLE, Int.reduceLT, Int.reduceToNat, Int.reduceNeg, reduceCtorEq, Int.reduceEq, SF0, SF1, SF2, DZc0, DWb0, DWa0, DLa0, DCg0, DCe0, DCe1, DCe2, DDb0, DBc0, DBc1, DKa0, DHb0, DHb1, DHa0, DDe0, DWc0]
    refine acall_one P2 (by simp [freeL, AV.free, Plan.free, Work.free]) rfl ?_
    simp (disch := omega) only [SX0, SX1, SX2, SX3, SX4, SX5, SX6, SX7, SX8, SU0, SY0, Nat.reduceAdd, Nat.reduceMul, Nat.reduceSub, Nat.reduceLeDiff, Nat.reduceEqDiff, Nat.reduceLT, Nat.reduceBEq, ↓reduceIte, Int.reduceLE, Int.reduceLT, Int.reduceToNat, Int.reduceNeg, reduceCtorEq, Int.reduceEq, SF0, SF1, SF2, DZc0, DWb0, DWa0, DLa0, DCg0, DCe0, DCe1, DCe2, DDb0, DBc0, DBc1, DKa0, DHb0, DHb1, DHa0, DDe0, DWc0]
    refine acall_one Q (by simp [freeL, AV.free, Plan.free, Work.free]) rfl ?_
    simp (disch := omega) only [SX0, SX1, SX2, SX3, SX4, SX5, SX6, SX7, SX8, SU0, SY0, Nat.reduceAdd, Nat.reduceMul, Nat.reduceSub, Nat.reduceLeDiff, Nat.reduceEqDiff, Nat.reduceLT, Nat.reduceBEq, ↓reduceIte, Int.reduceLE, Int.reduceLT, Int.reduceToNat, Int.reduceNeg, reduceCtorEq, Int.reduceEq, SF0, SF1, SF2, DZc0, DWb0, DWa0, DLa0, DCg0, DCe0, DCe1, DCe2, DDb0, DBc0, DBc1, DKa0, DHb0, DHb1, DHa0, DDe0, DWc0]
    exact fin_val ⟨rfl, rfl⟩
  have hpl := places_le hv
  rw [vparts_valid hv] at hlen ⊢
  have hob := Plan.places_ok hv
  have hgu := Plan.gu k p hv.2.1.1 k.sheet (Work.sheet_sane hv.1) hv.2.2
  generalize hL : p.places k.sheet = l at *
  simp (disch := omega) only [SX0, SX1, SX2, SX3, SX4, SX5, SX6, SX7, SX8, SU0, SY0, Nat.reduceAdd, Nat.reduceMul, Nat.reduceSub, Nat.reduceLeDiff, Nat.reduceEqDiff, Nat.reduceLT, Nat.reduceBEq, ↓reduceIte, Int.reduceLE, Int.reduceLT, Int.reduceToNat, Int.reduceNeg, reduceCtorEq, Int.reduceEq, SF0, SF1, SF2, DZc0, DWb0, DWa0, DLa0, DCg0, DCe0, DCe1, DCe2, DDb0, DBc0, DBc1, DKa0, DHb0, DHb1, DHa0, DDe0, DWc0]
  refine br_dec (fun h2 => ?_) (fun h2 => ?_)
  · simp (disch := omega) only [SX0, SX1, SX2, SX3, SX4, SX5, SX6, SX7, SX8, SU0, SY0, Nat.reduceAdd, Nat.reduceMul, Nat.reduceSub, Nat.reduceLeDiff, Nat.reduceEqDiff, Nat.reduceLT, Nat.reduceBEq, ↓reduceIte, Int.reduceLE, Int.reduceLT, Int.reduceToNat, Int.reduceNeg, reduceCtorEq, Int.reduceEq, SF0, SF1, SF2, DZc0, DWb0, DWa0, DLa0, DCg0, DCe0, DCe1, DCe2, DDb0, DBc0, DBc1, DKa0, DHb0, DHb1, DHa0, DDe0, DWc0]
    rw [vparts_valid hv, hL] at P2 Q
    refine acall_one P2 (by simp [freeL, AV.free, Plan.free, Work.free]) rfl ?_
    simp (disch := omega) only [SX0, SX1, SX2, SX3, SX4, SX5, SX6, SX7, SX8, SU0, SY0, Nat.reduceAdd, Nat.reduceMul, Nat.reduceSub, Nat.reduceLeDiff, Nat.reduceEqDiff, Nat.reduceLT, Nat.reduceBEq, ↓reduceIte, Int.reduceLE, Int.reduceLT, Int.reduceToNat, Int.reduceNeg, reduceCtorEq, Int.reduceEq, SF0, SF1, SF2, DZc0, DWb0, DWa0, DLa0, DCg0, DCe0, DCe1, DCe2, DDb0, DBc0, DBc1, DKa0, DHb0, DHb1, DHa0, DDe0, DWc0]
    refine acall_one Q (by simp [freeL, AV.free, Plan.free, Work.free]) rfl ?_
    simp (disch := omega) only [SX0, SX1, SX2, SX3, SX4, SX5, SX6, SX7, SX8, SU0, SY0, Nat.reduceAdd, Nat.reduceMul, Nat.reduceSub, Nat.reduceLeDiff, Nat.reduceEqDiff, Nat.reduceLT, Nat.reduceBEq, ↓reduceIte, Int.reduceLE, Int.reduceLT, Int.reduceToNat, Int.reduceNeg, reduceCtorEq, Int.reduceEq, SF0, SF1, SF2, DZc0, DWb0, DWa0, DLa0, DCg0, DCe0, DCe1, DCe2, DDb0, DBc0, DBc1, DKa0, DHb0, DHb1, DHa0, DDe0, DWc0]
    exact fin_val ⟨rfl, rfl⟩
  have hok := hob (by omega)
  simp (disch := omega) only [SX0, SX1, SX2, SX3, SX4, SX5, SX6, SX7, SX8, SU0, SY0, Nat.reduceAdd, Nat.reduceMul, Nat.reduceSub, Nat.reduceLeDiff, Nat.reduceEqDiff, Nat.reduceLT, Nat.reduceBEq, ↓reduceIte, Int.reduceLE, Int.reduceLT, Int.reduceToNat, Int.reduceNeg, reduceCtorEq, Int.reduceEq, SF0, SF1, SF2, DZc0, DWb0, DWa0, DLa0, DCg0, DCe0, DCe1, DCe2, DDb0, DBc0, DBc1, DKa0, DHb0, DHb1, DHa0, DDe0, DWc0]
  with_reducible refine awp_loop_h 7 62 (fun (i : Nat) => [(6, .val (.int .i64 i))]) (fun i => [.cells k.cs, .cells p.cs]) (fun i => i ≤ l.length + 1) (fun i => l.length + 1 - i) 0 (Nat.zero_le _) ?_ (fun i hi => sx_sound (bl := []) T_tt _ _ _ ?_)
  · simp (disch := omega) only [SX0, SX1, SX2, SX3, SX4, SX5, SX6, SX7, SX8, SU0, SY0, Nat.reduceAdd, Nat.reduceMul, Nat.reduceSub, Nat.reduceLeDiff, Nat.reduceEqDiff, Nat.reduceLT, Nat.reduceBEq, ↓reduceIte, Int.reduceLE, Int.reduceLT, Int.reduceToNat, Int.reduceNeg, reduceCtorEq, Int.reduceEq, SF0, SF1, SF2, DZc0, DWb0, DWa0, DLa0, DCg0, DCe0, DCe1, DCe2, DDb0, DBc0, DBc1, DKa0, DHb0, DHb1, DHa0, DDe0, DWc0]
    (refine wk_le ?_ ?_ ?_; (focus (simp [W8, leTm, leAV, AV.under, underL, Work.under, Plan.under]; done)); (focus (simp [leL, OB.under, underL, AV.under, Work.under, Plan.under]; done)); (focus (simp; done)))
  simp (disch := omega) only [SX0, SX1, SX2, SX3, SX4, SX5, SX6, SX7, SX8, SU0, SY0, Nat.reduceAdd, Nat.reduceMul, Nat.reduceSub, Nat.reduceLeDiff, Nat.reduceEqDiff, Nat.reduceLT, Nat.reduceBEq, ↓reduceIte, Int.reduceLE, Int.reduceLT, Int.reduceToNat, Int.reduceNeg, reduceCtorEq, Int.reduceEq, SF0, SF1, SF2, DZc0, DWb0, DWa0, DLa0, DCg0, DCe0, DCe1, DCe2, DDb0, DBc0, DBc1, DKa0, DHb0, DHb1, DHa0, DDe0, DWc0]
  refine br_dec (fun h3 => ?_) (fun h3 => ?_)
  · have hsub : placesOk k (l.drop i) := ⟨⟨hok.1.1, by rw [List.length_drop]; have := hok.1.2; omega⟩, fun q hq => hok.2.1 q (List.mem_of_mem_drop hq), hok.2.2.sublist (List.Sublist.map _ (List.drop_sublist _ _))⟩
    obtain ⟨r, hr, A⟩ := planOfPlacesI_c k (l.drop i) hkl hsub
    have hsome : r.isSome = true := (hr.iff (inside_InG fun q hq => (hsub.2.1 q hq).2.1)).2 (hgu.sub (List.drop_sublist _ _))
    obtain ⟨q, rfl⟩ := Option.isSome_iff_exists.1 hsome
    rw [List.map_drop] at A
    simp only [Option.getD_some, Option.isSome_some] at A
    simp (disch := omega) only [SX0, SX1, SX2, SX3, SX4, SX5, SX6, SX7, SX8, SU0, SY0, Nat.reduceAdd, Nat.reduceMul, Nat.reduceSub, Nat.reduceLeDiff, Nat.reduceEqDiff, Nat.reduceLT, Nat.reduceBEq, ↓reduceIte, Int.reduceLE, Int.reduceLT, Int.reduceToNat, Int.reduceNeg, reduceCtorEq, Int.reduceEq, SF0, SF1, SF2, DZc0, DWb0, DWa0, DLa0, DCg0, DCe0, DCe1, DCe2, DDb0, DBc0, DBc1, DKa0, DHb0, DHb1, DHa0, DDe0, DWc0]
    refine awp_float (bl := []) T_tt mixed [0, 1] [0, 1, 2, 3, 4, 5, 6, 7] [(9, [(0, .f 49), (1, .f 50), (2, .f 51), (3, .f 52), (4, .f 53), (5, .f 48), (6, .f 54), (8, .a 7 28)]), (10, [(7, .f 55)])] [] (by kernel_rfl) (by kernel_rfl) ?_
    simp (disch := omega) only [SX0, SX1, SX2, SX3, SX4, SX5, SX6, SX7, SX8, SU0, SY0, Nat.reduceAdd, Nat.reduceMul, Nat.reduceSub, Nat.reduceLeDiff, Nat.reduceEqDiff, Nat.reduceLT, Nat.reduceBEq, ↓reduceIte, Int.reduceLE, Int.reduceLT, Int.reduceToNat, Int.reduceNeg, reduceCtorEq, Int.reduceEq, SF0, SF1, SF2, DZc0, DWb0, DWa0, DLa0, DCg0, DCe0, DCe1, DCe2, DDb0, DBc0, DBc1, DKa0, DHb0, DHb1, DHa0, DDe0, DWc0]
    refine req ⟨by omega, by omega, fun c hc => by
      cases h0 : l[0]? with
      | none => rw [h0] at hc; simp at hc
      | some q0 => rw [h0] at hc; simp at hc; rw [← hc]; rfl⟩ ?_
    have htk : List.take l.length (List.map Place.cs l) = List.map Place.cs l := List.take_of_length_le (by simp)
    simp (disch := omega) only [SX0, SX1, SX2, SX3, SX4, SX5, SX6, SX7, SX8, SU0, SY0, Nat.reduceAdd, Nat.reduceMul, Nat.reduceSub, Nat.reduceLeDiff, Nat.reduceEqDiff, Nat.reduceLT, Nat.reduceBEq, ↓reduceIte, Int.reduceLE, Int.reduceLT, Int.reduceToNat, Int.reduceNeg, reduceCtorEq, Int.reduceEq, SF0, SF1, SF2, DZc0, DWb0, DWa0, DLa0, DCg0, DCe0, DCe1, DCe2, DDb0, DBc0, DBc1, DKa0, DHb0, DHb1, DHa0, DDe0, DWc0, htk]
    refine qc_one A (by simp [freeL, AV.free, Work.free]) ?_
    simp (disch := omega) only [SX0, SX1, SX2, SX3, SX4, SX5, SX6, SX7, SX8, SU0, SY0, Nat.reduceAdd, Nat.reduceMul, Nat.reduceSub, Nat.reduceLeDiff, Nat.reduceEqDiff, Nat.reduceLT, Nat.reduceBEq, ↓reduceIte, Int.reduceLE, Int.reduceLT, Int.reduceToNat, Int.reduceNeg, reduceCtorEq, Int.reduceEq, SF0, SF1, SF2, DZc0, DWb0, DWa0, DLa0, DCg0, DCe0, DCe1, DCe2, DDb0, DBc0, DBc1, DKa0, DHb0, DHb1, DHa0, DDe0, DWc0]
    by_cases hi0 : i = 0
    · subst hi0
      rw [List.drop_zero] at hr
      have hV := PF.valid hok hr
      have hsm : p.same q k := ⟨⟨hv, hV.1⟩, by rw [hL]; exact hV.2.length_eq.symm, fun a ha => by rw [hL] at ha; exact hV.2.mem_iff.2 ha⟩
      have S := samePlacesG_c k p q hkl
      rw [decide_eq_true hsm] at S
      refine br_dec (fun h4 => ?_) (fun h4 => absurd rfl h4)
      simp (disch := omega) only [SX0, SX1, SX2, SX3, SX4, SX5, SX6, SX7, SX8, SU0, SY0, Nat.reduceAdd, Nat.reduceMul, Nat.reduceSub, Nat.reduceLeDiff, Nat.reduceEqDiff, Nat.reduceLT, Nat.reduceBEq, ↓reduceIte, Int.reduceLE, Int.reduceLT, Int.reduceToNat, Int.reduceNeg, reduceCtorEq, Int.reduceEq, SF0, SF1, SF2, DZc0, DWb0, DWa0, DLa0, DCg0, DCe0, DCe1, DCe2, DDb0, DBc0, DBc1, DKa0, DHb0, DHb1, DHa0, DDe0, DWc0]
      refine acall_one S (by simp [freeL, AV.free, Plan.free, Work.free]) rfl ?_
      simp (disch := omega) only [SX0, SX1, SX2, SX3, SX4, SX5, SX6, SX7, SX8, SU0, SY0, Nat.reduceAdd, Nat.reduceMul, Nat.reduceSub, Nat.reduceLeDiff, Nat.reduceEqDiff, Nat.reduceLT, Nat.reduceBEq, ↓reduceIte, Int.reduceLE, Int.reduceLT, Int.reduceToNat, Int.reduceNeg, reduceCtorEq, Int.reduceEq, SF0, SF1, SF2, DZc0, DWb0, DWa0, DLa0, DCg0, DCe0, DCe1, DCe2, DDb0, DBc0, DBc1, DKa0, DHb0, DHb1, DHa0, DDe0, DWc0]
      refine ⟨1, by omega, by omega, ?_⟩
      (refine wk_le ?_ ?_ ?_; (focus (simp [W8, leTm, leAV, AV.under, underL, Work.under, Plan.under]; done)); (focus (simp [leL, OB.under, underL, AV.under, Work.under, Plan.under]; done)); (focus (simp; done)))
    · refine br_dec (fun h4 => ?_) (fun h4 => ?_)
      · exfalso; omega
      · simp (disch := omega) only [SX0, SX1, SX2, SX3, SX4, SX5, SX6, SX7, SX8, SU0, SY0, Nat.reduceAdd, Nat.reduceMul, Nat.reduceSub, Nat.reduceLeDiff, Nat.reduceEqDiff, Nat.reduceLT, Nat.reduceBEq, ↓reduceIte, Int.reduceLE, Int.reduceLT, Int.reduceToNat, Int.reduceNeg, reduceCtorEq, Int.reduceEq, SF0, SF1, SF2, DZc0, DWb0, DWa0, DLa0, DCg0, DCe0, DCe1, DCe2, DDb0, DBc0, DBc1, DKa0, DHb0, DHb1, DHa0, DDe0, DWc0]
        refine ⟨i + 1, by omega, by omega, ?_⟩
        (refine wk_le ?_ ?_ ?_; (focus (simp [W8, leTm, leAV, AV.under, underL, Work.under, Plan.under]; done)); (focus (simp [leL, OB.under, underL, AV.under, Work.under, Plan.under]; done)); (focus (simp; done)))
  · simp (disch := omega) only [SX0, SX1, SX2, SX3, SX4, SX5, SX6, SX7, SX8, SU0, SY0, Nat.reduceAdd, Nat.reduceMul, Nat.reduceSub, Nat.reduceLeDiff, Nat.reduceEqDiff, Nat.reduceLT, Nat.reduceBEq, ↓reduceIte, Int.reduceLE, Int.reduceLT, Int.reduceToNat, Int.reduceNeg, reduceCtorEq, Int.reduceEq, SF0, SF1, SF2, DZc0, DWb0, DWa0, DLa0, DCg0, DCe0, DCe1, DCe2, DDb0, DBc0, DBc1, DKa0, DHb0, DHb1, DHa0, DDe0, DWc0]
    exact fin_val ⟨rfl, rfl⟩

end Go.Pc
