/- LostArea of the program and of the reference, for all arguments. -/
import Derived.Test.YtjeabpbpoomlmaaLa
import Derived.Test.YtjeabpbpoomlmaaMl
import Derived.Test.YtjeabpbpoomlmaaMp
import Derived.Test.YtjeabpbpoomlmaaMw
set_option linter.unusedSimpArgs false
set_option linter.unusedVariables false
namespace Go.Pc
open Go Go.Proofs

/-- The leaves that are waste. -/
theorem Plan.leaf_wastes (k : Work) : ∀ (p : Plan), p.wf = true → ∀ b : Box, p.fits k b.W b.H = true → (((p.parts b).filterMap leafOf).filter (fun q => decide (q.pa < 0))).map Place.box = p.wastes b :=
  Plan.wf_ind (fun p hw hc b hf => by
    have hp := Plan.places_pa k p hw b hf
    have hg := ((Plan.wf_iff p).1 hw).1
    unfold Plan.good at hg
    rw [if_neg hc] at hg
    unfold Plan.wastes Plan.places at *
    rw [Plan.parts_leaf hc] at *
    by_cases h1 : p.op = 1
    · have := hp ⟨p.pa, p.tu, b⟩ (by simp [placeOf, h1])
      have h0 : ¬ p.pa < 0 := by have := this.1; simp only at this; omega
      simp [leafOf, wasteOf, hc, h1, h0]
    · have h0 : p.op = 0 := by
        rcases hg.2.2 with h | h
        · exact absurd h h1
        · exact h.1
      simp [leafOf, wasteOf, hc, h0]) (fun p x y hw hc hk hx hy ix iy b hf => by
    obtain ⟨f1, f2, _⟩ := Plan.fits_cut hc hk hf
    have h1 : wasteOf (p, b) = none := by
      unfold wasteOf
      rw [if_neg]
      simp only
      unfold Plan.cut at hc
      omega
    have h2 : leafOf (p, b) = none := by simp [leafOf, hc]
    unfold Plan.wastes at *
    rw [Plan.parts_cut hc hk, List.filterMap_cons, List.filterMap_cons, h1, h2, List.filterMap_append, List.filterMap_append, List.filter_append, List.map_append, ix _ f1, iy _ f2])

theorem e_wastesOfS : Enters Try.prog 86 := enters_of Try.func86 (by kernel_rfl) (by kernel_rfl)
set_option maxHeartbeats 1000000 in
theorem wastesOfS_c (k : Work) (p : Plan) (hv : p.valid k) : ACalls Try.prog 86 [.agg k.cs, .agg p.cs] [] [] (fun r L => r = .sl ((p.wastes k.sheet).map Box.cs) ∧ L = []) := by
  have hk := hv.1.2.2.2
  have hlen : ((p.parts k.sheet).filterMap leafOf).length ≤ 255 := Nat.le_trans (List.length_filterMap_le _ _) (by rw [Plan.parts_len p hv.2.1.1]; exact hv.2.1.2)
  have hpl := Plan.leaf_wastes k p hv.2.1.1 k.sheet hv.2.2
  have hS := (spread_n k _ p k.sheet (Nat.le_refl _) hv.2.1.1 (Work.sheet_sane hv.1) hv.2.2 hv.2.1.2).frozen (by simp)
  generalize (p.parts k.sheet).filterMap leafOf = l at *
  refine acalls_tm T_tt Try.func86 rfl e_wastesOfS 35 rfl (W8 _ _ .any .any .any .any .any .any (W8 .any .any .any .any .any .any .any .any (W8 .any .any .any .any .any .any .any .any (W8 .any .any .any .any .any .any .any .any [.any, .any, .any, .any, .any])))) rfl (rv := [.tmp 4]) rfl (sx_sound (bl := []) T_tt _ _ _ ?_)
  simp (disch := omega) only [SX0, SX1, SX2, SX3, SX4, SX5, SX6, SX7, SX8, SU0, SY0, SY1, Nat.reduceAdd, Nat.reduceMul, Nat.reduceSub, Nat.reduceLeDiff, Nat.reduceEqDiff, Nat.reduceLT, Nat.reduceBEq, ↓reduceIte, Int.reduceLE, Int.reduceLT, Int.reduceToNat, Int.reduceNeg, reduceCtorEq, Int.reduceEq, SF0, SF1, SF2, DLa0, DCg0, DCe0, DCe1, DCe2, DDb0, DBc0, DBc1, DHb0, DHb1, DHa0, DDe0]
  refine acall_one hS (by simp [freeL, AV.free, Plan.free]; rfl) rfl ?_
  simp (disch := omega) only [SX0, SX1, SX2, SX3, SX4, SX5, SX6, SX7, SX8, SU0, SY0, SY1, Nat.reduceAdd, Nat.reduceMul, Nat.reduceSub, Nat.reduceLeDiff, Nat.reduceEqDiff, Nat.reduceLT, Nat.reduceBEq, ↓reduceIte, Int.reduceLE, Int.reduceLT, Int.reduceToNat, Int.reduceNeg, reduceCtorEq, Int.reduceEq, SF0, SF1, SF2, DLa0, DCg0, DCe0, DCe1, DCe2, DDb0, DBc0, DBc1, DHb0, DHb1, DHa0, DDe0]
  with_reducible refine awp_loop_h 8 29 (fun (i : Nat) => [(5, .os 2 4 0 ((l.take i).filter fun q => decide (q.pa < 0)).length), (6, .sl (l.map Place.cs)), (7, .val (.int .i64 i))]) (fun i => [.cells k.cs, .cells p.cs, .vec 4 (((l.take i).filter fun q => decide (q.pa < 0)).map fun q => q.box.cs)]) (fun i => i ≤ l.length) (fun i => l.length - i) 0 (Nat.zero_le _) ?_ (fun i hi => sx_sound (bl := []) T_tt _ _ _ ?_)
  · simp (disch := omega) only [SX0, SX1, SX2, SX3, SX4, SX5, SX6, SX7, SX8, SU0, SY0, SY1, Nat.reduceAdd, Nat.reduceMul, Nat.reduceSub, Nat.reduceLeDiff, Nat.reduceEqDiff, Nat.reduceLT, Nat.reduceBEq, ↓reduceIte, Int.reduceLE, Int.reduceLT, Int.reduceToNat, Int.reduceNeg, reduceCtorEq, Int.reduceEq, SF0, SF1, SF2, DLa0, DCg0, DCe0, DCe1, DCe2, DDb0, DBc0, DBc1, DHb0, DHb1, DHa0, DDe0]
    (refine wk_le ?_ ?_ ?_; (focus (simp [W8, leTm, leAV, AV.under, underL, Work.under, Plan.under]; done)); (focus (simp [leL, OB.under, underL, AV.under, Work.under, Plan.under]; done)); (focus (simp; done)))
  simp (disch := omega) only [SX0, SX1, SX2, SX3, SX4, SX5, SX6, SX7, SX8, SU0, SY0, SY1, Nat.reduceAdd, Nat.reduceMul, Nat.reduceSub, Nat.reduceLeDiff, Nat.reduceEqDiff, Nat.reduceLT, Nat.reduceBEq, ↓reduceIte, Int.reduceLE, Int.reduceLT, Int.reduceToNat, Int.reduceNeg, reduceCtorEq, Int.reduceEq, SF0, SF1, SF2, DLa0, DCg0, DCe0, DCe1, DCe2, DDb0, DBc0, DBc1, DHb0, DHb1, DHa0, DDe0]
  refine br_dec (fun h1 => ?_) (fun h1 => ?_)
  · obtain ⟨q, hq⟩ := get_lt (l := l) (i := i) (by omega)
    have hlt : ((l.take i).filter fun q => decide (q.pa < 0)).length ≤ i := Nat.le_trans (List.length_filter_le _ _) (by rw [List.length_take]; omega)
    have e := filter_take (f := fun q : Place => decide (q.pa < 0)) hq
    simp (disch := omega) only [SX0, SX1, SX2, SX3, SX4, SX5, SX6, SX7, SX8, SU0, SY0, SY1, Nat.reduceAdd, Nat.reduceMul, Nat.reduceSub, Nat.reduceLeDiff, Nat.reduceEqDiff, Nat.reduceLT, Nat.reduceBEq, ↓reduceIte, Int.reduceLE, Int.reduceLT, Int.reduceToNat, Int.reduceNeg, reduceCtorEq, Int.reduceEq, SF0, SF1, SF2, DLa0, DCg0, DCe0, DCe1, DCe2, DDb0, DBc0, DBc1, DHb0, DHb1, DHa0, DDe0, hq]
    refine br_dec (fun h2 => ?_) (fun h2 => ?_)
    · rw [if_pos (by simpa using h2)] at e
      simp (disch := omega) only [SX0, SX1, SX2, SX3, SX4, SX5, SX6, SX7, SX8, SU0, SY0, SY1, Nat.reduceAdd, Nat.reduceMul, Nat.reduceSub, Nat.reduceLeDiff, Nat.reduceEqDiff, Nat.reduceLT, Nat.reduceBEq, ↓reduceIte, Int.reduceLE, Int.reduceLT, Int.reduceToNat, Int.reduceNeg, reduceCtorEq, Int.reduceEq, SF0, SF1, SF2, DLa0, DCg0, DCe0, DCe1, DCe2, DDb0, DBc0, DBc1, DHb0, DHb1, DHa0, DDe0, hq, Place.drop_box, Place.drop_pb]
      refine req (by omega) ?_
      simp (disch := omega) only [SX0, SX1, SX2, SX3, SX4, SX5, SX6, SX7, SX8, SU0, SY0, SY1, Nat.reduceAdd, Nat.reduceMul, Nat.reduceSub, Nat.reduceLeDiff, Nat.reduceEqDiff, Nat.reduceLT, Nat.reduceBEq, ↓reduceIte, Int.reduceLE, Int.reduceLT, Int.reduceToNat, Int.reduceNeg, reduceCtorEq, Int.reduceEq, SF0, SF1, SF2, DLa0, DCg0, DCe0, DCe1, DCe2, DDb0, DBc0, DBc1, DHb0, DHb1, DHa0, DDe0]
      refine ⟨i + 1, by omega, by omega, ?_⟩
      (refine wk_le ?_ ?_ ?_; (focus (simp [W8, leTm, leAV, AV.under, underL, Work.under, Plan.under, e]; done)); (focus (simp [leL, OB.under, underL, AV.under, Work.under, Plan.under, e]; done)); (focus (simp; done)))
    · rw [if_neg (by simpa using h2), List.append_nil] at e
      simp (disch := omega) only [SX0, SX1, SX2, SX3, SX4, SX5, SX6, SX7, SX8, SU0, SY0, SY1, Nat.reduceAdd, Nat.reduceMul, Nat.reduceSub, Nat.reduceLeDiff, Nat.reduceEqDiff, Nat.reduceLT, Nat.reduceBEq, ↓reduceIte, Int.reduceLE, Int.reduceLT, Int.reduceToNat, Int.reduceNeg, reduceCtorEq, Int.reduceEq, SF0, SF1, SF2, DLa0, DCg0, DCe0, DCe1, DCe2, DDb0, DBc0, DBc1, DHb0, DHb1, DHa0, DDe0]
      refine ⟨i + 1, by omega, by omega, ?_⟩
      (refine wk_le ?_ ?_ ?_; (focus (simp [W8, leTm, leAV, AV.under, underL, Work.under, Plan.under, e]; done)); (focus (simp [leL, OB.under, underL, AV.under, Work.under, Plan.under, e]; done)); (focus (simp; done)))
  · simp (disch := omega) only [SX0, SX1, SX2, SX3, SX4, SX5, SX6, SX7, SX8, SU0, SY0, SY1, Nat.reduceAdd, Nat.reduceMul, Nat.reduceSub, Nat.reduceLeDiff, Nat.reduceEqDiff, Nat.reduceLT, Nat.reduceBEq, ↓reduceIte, Int.reduceLE, Int.reduceLT, Int.reduceToNat, Int.reduceNeg, reduceCtorEq, Int.reduceEq, SF0, SF1, SF2, DLa0, DCg0, DCe0, DCe1, DCe2, DDb0, DBc0, DBc1, DHb0, DHb1, DHa0, DDe0]
    exact fin_row rfl (by simp) ⟨by rw [List.take_of_length_le (by omega), ← hpl, List.map_map]; rfl, rfl⟩

/-- What is lost of a box. -/
def lost (n : Int) (b : Box) : Int := if n ≤ b.W ∧ n ≤ b.H then 0 else b.W * b.H
def Plan.lostA (p : Plan) (k : Work) (n : Int) : Int := if p.valid k ∧ (1 ≤ n ∧ n ≤ 200) then ((p.wastes k.sheet).map (lost n)).sum else -1

theorem wastes_len {p : Plan} {k : Work} (hv : p.valid k) : (p.wastes k.sheet).length ≤ 255 := Nat.le_trans (List.length_filterMap_le _ _) (by rw [Plan.parts_len p hv.2.1.1]; exact hv.2.1.2)
theorem wastes_in {p : Plan} {k : Work} (hv : p.valid k) : ∀ b ∈ p.wastes k.sheet, b.sane := fun b hb => (Plan.all_in k p hv.2.1.1 k.sheet (Work.sheet_sane hv.1) hv.2.2 b (List.mem_append_right _ hb)).1
theorem lost_rng {n : Int} {b : Box} (h : b.sane) : 0 ≤ lost n b ∧ lost n b ≤ 40000 := by
  unfold Box.sane at h
  have := mul_rng (a := b.W) (b := b.H) (m := 200) (n := 200) ⟨by omega, by omega⟩ ⟨by omega, by omega⟩
  unfold lost
  split <;> omega

end Go.Pc
