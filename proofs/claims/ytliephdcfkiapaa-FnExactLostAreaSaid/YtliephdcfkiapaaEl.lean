/- LostArea of the program and of the reference, for all arguments. -/
import Derived.Test.YtliephdcfkiapaaLa
import Derived.Test.YtliephdcfkiapaaMl
import Derived.Test.YtliephdcfkiapaaMp
import Derived.Test.YtliephdcfkiapaaMw
set_option linter.unusedSimpArgs false
set_option linter.unusedVariables false
namespace Go.Pc
open Go Go.Proofs

/-- The leaves that are waste. -/
theorem Plan.leaf_wastes (k : Work) : ∀ (p : Plan), p.wf = true → ∀ b : Box, p.fits k b.W b.H = true → (((p.parts b).filterMap leafOf).filter (fun q => decide (q.pa < 0))).map Place.box = p.wastes b :=
  Plan.wf_ind (fun p hw hc b hf => by
    have hp := Plan.places_pa k p hw b hf
    have hg := ((Plan.wf_iff p).1 hw).1
    unfold Plan.good at hg
    rw [if_neg hc] at hg
    unfold Plan.wastes Plan.places at *
    rw [Plan.parts_leaf hc] at *
    by_cases h1 : p.op = 1
    · have := hp ⟨p.pa, p.tu, b⟩ (by simp [placeOf, h1])
      have h0 : ¬ p.pa < 0 := by have := this.1; simp only at this; omega
      simp [leafOf, wasteOf, hc, h1, h0]
    · have h0 : p.op = 0 := by
        rcases hg.2.2 with h | h
        · exact absurd h h1
        · exact h.1
      simp [leafOf, wasteOf, hc, h0]) (fun p x y hw hc hk hx hy ix iy b hf => by
    obtain ⟨f1, f2, _⟩ := Plan.fits_cut hc hk hf
    have h1 : wasteOf (p, b) = none := by
      unfold wasteOf
      rw [if_neg]
      simp only
      unfold Plan.cut at hc
      omega
    have h2 : leafOf (p, b) = none := by simp [leafOf, hc]
    unfold Plan.wastes at *
    rw [Plan.parts_cut hc hk, List.filterMap_cons, List.filterMap_cons, h1, h2, List.filterMap_append, List.filterMap_append, List.filter_append, List.map_append, ix _ f1, iy _ f2])

theorem e_wastesOfS : Enters Try.prog 89 := enters_of Try.func89 (by kernel_rfl) (by kernel_rfl)
set_option maxHeartbeats 1000000 in
theorem wastesOfS_c (k : Work) (p : Plan) (hv : p.valid k) : ACalls Try.prog 89 [.agg k.cs, .agg p.cs] [] [] (fun r L => r = .sl ((p.wastes k.sheet).map Box.cs) ∧ L = []) := by
  have hk := hv.1.2.2.2
  have hlen : ((p.parts k.sheet).filterMap leafOf).length ≤ 255 := Nat.le_trans (List.length_filterMap_le _ _) (by rw [Plan.parts_len p hv.2.1.1]; exact hv.2.1.2)
  have hpl := Plan.leaf_wastes k p hv.2.1.1 k.sheet hv.2.2
  have hS := (spread_n k _ p k.sheet (Nat.le_refl _) hv.2.1.1 (Work.sheet_sane hv.1) hv.2.2 hv.2.1.2).frozen (by simp)
  generalize (p.parts k.sheet).filterMap leafOf = l at *
  refine acalls_tm T_tt Try.func89 rfl e_wastesOfS 35 rfl (W8 _ _ .any .any .any .any .any .any (W8 .any .any .any .any .any .any .any .any (W8 .any .any .any .any .any .any .any .any (W8 .any .any .any .any .any .any .any .any [.any, .any, .any, .any, .any])))) rfl (rv := [.tmp 4]) rfl (sx_sound (bl := []) T_tt _ _ _ ?_)
  simp (disch := omega) only [SX0, SX1, SX2, SX3, SX4, SX5, SX6, SX7, SX8, SU0, SY0, SY1, Nat.reduceAdd, Nat.reduceMul, Nat.reduceSub, Nat.reduceLeDiff, Nat.reduceEqDiff, Nat.reduceLT, Nat.reduceBEq, ↓reduceIte, Int.reduceLE, Int.reduceLT, Int.reduceToNat, Int.reduceNeg, reduceCtorEq, Int.reduceEq, SF0, SF1, SF2, DLa0, DCg0, DCe0, DCa0, DCa1, DDb0, DBc0, DBa0, DHb0, DHb1, DHa0, DDc0]
  refine acall_one hS (by simp [freeL, AV.free, Plan.free]; rfl) rfl ?_
  simp (disch := omega) only [SX0, SX1, SX2, SX3, SX4, SX5, SX6, SX7, SX8, SU0, SY0, SY1, Nat.reduceAdd, Nat.reduceMul, Nat.reduceSub, Nat.reduceLeDiff, Nat.reduceEqDiff, Nat.reduceLT, Nat.reduceBEq, ↓reduceIte, Int.reduceLE, Int.reduceLT, Int.reduceToNat, Int.reduceNeg, reduceCtorEq, Int.reduceEq, SF0, SF1, SF2, DLa0, DCg0, DCe0, DCa0, DCa1, DDb0, DBc0, DBa0, DHb0, DHb1, DHa0, DDc0]
  with_reducible refine awp_loop_h 8 29 (fun (i : Nat) => [(5, .os 2 4 0 ((l.take i).filter fun q => decide (q.pa < 0)).length), (6, .sl (l.map Place.cs)), (7, .val (.int .i64 i))]) (fun i => [.cells k.cs, .cells p.cs, .vec 4 (((l.take i).filter fun q => decide (q.pa < 0)).map fun q => q.box.cs)]) (fun i => i ≤ l.length) (fun i => l.length - i) 0 (Nat.zero_le _) ?_ (fun i hi => sx_sound (bl := []) T_tt _ _ _ ?_)
  · simp (disch := omega) only [SX0, SX1, SX2, SX3, SX4, SX5, SX6, SX7, SX8, SU0, SY0, SY1, Nat.reduceAdd, Nat.reduceMul, Nat.reduceSub, Nat.reduceLeDiff, Nat.reduceEqDiff, Nat.reduceLT, Nat.reduceBEq, ↓reduceIte, Int.reduceLE, Int.reduceLT, Int.reduceToNat, Int.reduceNeg, reduceCtorEq, Int.reduceEq, SF0, SF1, SF2, DLa0, DCg0, DCe0, DCa0, DCa1, DDb0, DBc0, DBa0, DHb0, DHb1, DHa0, DDc0]
    (refine wk_le ?_ ?_ ?_; (focus (simp [W8, leTm, leAV, AV.under, underL, Work.under, Plan.under]; done)); (focus (simp [leL, OB.under, underL, AV.under, Work.under, Plan.under]; done)); (focus (simp; done)))
  simp (disch := omega) only [SX0, SX1, SX2, SX3, SX4, SX5, SX6, SX7, SX8, SU0, SY0, SY1, Nat.reduceAdd, Nat.reduceMul, Nat.reduceSub, Nat.reduceLeDiff, Nat.reduceEqDiff, Nat.reduceLT, Nat.reduceBEq, ↓reduceIte, Int.reduceLE, Int.reduceLT, Int.reduceToNat, Int.reduceNeg, reduceCtorEq, Int.reduceEq, SF0, SF1, SF2, DLa0, DCg0, DCe0, DCa0, DCa1, DDb0, DBc0, DBa0, DHb0, DHb1, DHa0, DDc0]
  refine br_dec (fun h1 => ?_) (fun h1 => ?_)
  · obtain ⟨q, hq⟩ := get_lt (l := l) (i := i) (by omega)
    have hlt : ((l.take i).filter fun q => decide (q.pa < 0)).length ≤ i := Nat.le_trans (List.length_filter_le _ _) (by rw [List.length_take]; omega)
    have e := filter_take (f := fun q : Place => decide (q.pa < 0)) hq
    simp (disch := omega) only [SX0, SX1, SX2, SX3, SX4, SX5, SX6, SX7, SX8, SU0, SY0, SY1, Nat.reduceAdd, Nat.reduceMul, Nat.reduceSub, Nat.reduceLeDiff, Nat.reduceEqDiff, Nat.reduceLT, Nat.reduceBEq, ↓reduceIte, Int.reduceLE, Int.reduceLT, Int.reduceToNat, Int.reduceNeg, reduceCtorEq, Int.reduceEq, SF0, SF1, SF2, DLa0, DCg0, DCe0, DCa0, DCa1, DDb0, DBc0, DBa0, DHb0, DHb1, DHa0, DDc0, hq]
    refine br_dec (fun h2 => ?_) (fun h2 => ?_)
    · rw [if_pos (by simpa using h2)] at e
      simp (disch := omega) only [SX0, SX1, SX2, SX3, SX4, SX5, SX6, SX7, SX8, SU0, SY0, SY1, Nat.reduceAdd, Nat.reduceMul, Nat.reduceSub, Nat.reduceLeDiff, Nat.reduceEqDiff, Nat.reduceLT, Nat.reduceBEq, ↓reduceIte, Int.reduceLE, Int.reduceLT, Int.reduceToNat, Int.reduceNeg, reduceCtorEq, Int.reduceEq, SF0, SF1, SF2, DLa0, DCg0, DCe0, DCa0, DCa1, DDb0, DBc0, DBa0, DHb0, DHb1, DHa0, DDc0, hq, Place.drop_box, Place.drop_pb]
      refine req (by omega) ?_
      simp (disch := omega) only [SX0, SX1, SX2, SX3, SX4, SX5, SX6, SX7, SX8, SU0, SY0, SY1, Nat.reduceAdd, Nat.reduceMul, Nat.reduceSub, Nat.reduceLeDiff, Nat.reduceEqDiff, Nat.reduceLT, Nat.reduceBEq, ↓reduceIte, Int.reduceLE, Int.reduceLT, Int.reduceToNat, Int.reduceNeg, reduceCtorEq, Int.reduceEq, SF0, SF1, SF2, DLa0, DCg0, DCe0, DCa0, DCa1, DDb0, DBc0, DBa0, DHb0, DHb1, DHa0, DDc0]
      refine ⟨i + 1, by omega, by omega, ?_⟩
      (refine wk_le ?_ ?_ ?_; (focus (simp [W8, leTm, leAV, AV.under, underL, Work.under, Plan.under, e]; done)); (focus (simp [leL, OB.under, underL, AV.under, Work.under, Plan.under, e]; done)); (focus (simp; done)))
    · rw [if_neg (by simpa using h2), List.append_nil] at e
      simp (disch := omega) only [SX0, SX1, SX2, SX3, SX4, SX5, SX6, SX7, SX8, SU0, SY0, SY1, Nat.reduceAdd, Nat.reduceMul, Nat.reduceSub, Nat.reduceLeDiff, Nat.reduceEqDiff, Nat.reduceLT, Nat.reduceBEq, ↓reduceIte, Int.reduceLE, Int.reduceLT, Int.reduceToNat, Int.reduceNeg, reduceCtorEq, Int.reduceEq, SF0, SF1, SF2, DLa0, DCg0, DCe0, DCa0, DCa1, DDb0, DBc0, DBa0, DHb0, DHb1, DHa0, DDc0]
      refine ⟨i + 1, by omega, by omega, ?_⟩
      (refine wk_le ?_ ?_ ?_; (focus (simp [W8, leTm, leAV, AV.under, underL, Work.under, Plan.under, e]; done)); (focus (simp [leL, OB.under, underL, AV.under, Work.under, Plan.under, e]; done)); (focus (simp; done)))
  · simp (disch := omega) only [SX0, SX1, SX2, SX3, SX4, SX5, SX6, SX7, SX8, SU0, SY0, SY1, Nat.reduceAdd, Nat.reduceMul, Nat.reduceSub, Nat.reduceLeDiff, Nat.reduceEqDiff, Nat.reduceLT, Nat.reduceBEq, ↓reduceIte, Int.reduceLE, Int.reduceLT, Int.reduceToNat, Int.reduceNeg, reduceCtorEq, Int.reduceEq, SF0, SF1, SF2, DLa0, DCg0, DCe0, DCa0, DCa1, DDb0, DBc0, DBa0, DHb0, DHb1, DHa0, DDc0]
    exact fin_row rfl (by simp) ⟨by rw [List.take_of_length_le (by omega), ← hpl, List.map_map]; rfl, rfl⟩

/-- What is lost of a box. -/
def lost (n : Int) (b : Box) : Int := if n ≤ b.W ∧ n ≤ b.H then 0 else b.W * b.H
def Plan.lostA (p : Plan) (k : Work) (n : Int) : Int := if p.valid k ∧ (1 ≤ n ∧ n ≤ 200) then ((p.wastes k.sheet).map (lost n)).sum else -1

theorem wastes_len {p : Plan} {k : Work} (hv : p.valid k) : (p.wastes k.sheet).length ≤ 255 := Nat.le_trans (List.length_filterMap_le _ _) (by rw [Plan.parts_len p hv.2.1.1]; exact hv.2.1.2)
theorem wastes_in {p : Plan} {k : Work} (hv : p.valid k) : ∀ b ∈ p.wastes k.sheet, b.sane := fun b hb => (Plan.all_in k p hv.2.1.1 k.sheet (Work.sheet_sane hv.1) hv.2.2 b (List.mem_append_right _ hb)).1
theorem lost_rng {n : Int} {b : Box} (h : b.sane) : 0 ≤ lost n b ∧ lost n b ≤ 40000 := by
  unfold Box.sane at h
  have := mul_rng (a := b.W) (b := b.H) (m := 200) (n := 200) ⟨by omega, by omega⟩ ⟨by omega, by omega⟩
  unfold lost
  split <;> omega

theorem e_isRemnant : Enters Try.prog 90 := enters_of Try.func90 (by kernel_rfl) (by kernel_rfl)
theorem isRemnant_c (b : Box) (n : Int) : ACalls Try.prog 90 [.agg b.cs, .val (.int .i64 n)] [] [] (fun r L => r = .val (.bool (decide (n ≤ b.W ∧ n ≤ b.H))) ∧ L = []) := by
  refine acalls_tm T_tt Try.func90 rfl e_isRemnant 13 rfl (W8 _ _ .any .any .any .any .any .any [.any, .any, .any, .any, .any, .any, .any]) rfl (rv := [.tmp 4]) rfl (sx_sound (bl := []) T_tt _ _ _ ?_)
  repeat' first | with_reducible refine fin_val ⟨?_, rfl⟩ | with_reducible refine br_dec (fun hb => ?_) (fun hb => ?_) | with_reducible refine br_ndec (fun hb => ?_) (fun hb => ?_) | with_reducible refine br_bool (fun hb => ?_) (fun hb => ?_) | with_reducible refine pk_dec (fun hb => ?_) (fun hb => ?_) | with_reducible refine pk_ndec (fun hb => ?_) (fun hb => ?_) | with_reducible refine awp_drawA T_tt mixed (by decide +kernel) (by kernel_rfl) (by kernel_rfl) ?_ | simp (disch := omega) only [SX0, SX1, SX2, SX3, SX4, SX5, SX6, SX7, SX8, SU0, SY0, SY1, Nat.reduceAdd, Nat.reduceMul, Nat.reduceSub, Nat.reduceLeDiff, Nat.reduceEqDiff, Nat.reduceLT, Nat.reduceBEq, ↓reduceIte, Int.reduceLE, Int.reduceLT, Int.reduceToNat, Int.reduceNeg, reduceCtorEq, Int.reduceEq, SF0, SF1, SF2, DLa0, DCg0, DCe0, DCa0, DCa1, DDb0, DBc0, DBa0, DHb0, DHb1, DHa0, DDc0]
  all_goals first | exact vF (by omega) | exact vT (by omega) | exact vb (by omega)

theorem e_boxArea : Enters Try.prog 93 := enters_of Try.func93 (by kernel_rfl) (by kernel_rfl)
theorem boxArea_c (b : Box) (h : b.sane) : ACalls Try.prog 93 [.agg b.cs] [] [] (fun r L => r = .val (.int .i64 (b.W * b.H)) ∧ L = []) := by
  unfold Box.sane at h
  have := mul_rng (a := b.W) (b := b.H) (m := 200) (n := 200) ⟨by omega, by omega⟩ ⟨by omega, by omega⟩
  refine acalls_tm T_tt Try.func93 rfl e_boxArea 7 rfl (W8 _ .any .any .any .any .any .any .any []) rfl (rv := [.tmp 2]) rfl (sx_sound (bl := []) T_tt _ _ _ ?_)
  simp (disch := omega) only [SX0, SX1, SX2, SX3, SX4, SX5, SX6, SX7, SX8, SU0, SY0, SY1, Nat.reduceAdd, Nat.reduceMul, Nat.reduceSub, Nat.reduceLeDiff, Nat.reduceEqDiff, Nat.reduceLT, Nat.reduceBEq, ↓reduceIte, Int.reduceLE, Int.reduceLT, Int.reduceToNat, Int.reduceNeg, reduceCtorEq, Int.reduceEq, SF0, SF1, SF2, DLa0, DCg0, DCe0, DCa0, DCa1, DDb0, DBc0, DBa0, DHb0, DHb1, DHa0, DDc0]
  exact fin_val ⟨rfl, rfl⟩

theorem e_lostAreaI : Enters Try.prog 39 := enters_of Try.func39 (by kernel_rfl) (by kernel_rfl)
set_option maxRecDepth 8000 in
set_option maxHeartbeats 4000000 in
theorem lostAreaI_c (k : Work) (p : Plan) (n : Int) (hk : k.Ps.length < 2 ^ 40) : ACalls Try.prog 39 [.agg k.cs, .agg p.cs, .val (.int .i64 n)] [] [] (fun r L => r = .val (.int .i64 (p.lostA k n)) ∧ L = []) := by
  refine acalls_tm T_tt Try.func39 rfl e_lostAreaI 43 rfl (W8 _ _ _ .any .any .any .any .any (W8 .any .any .any .any .any .any .any .any (W8 .any .any .any .any .any .any .any .any (W8 .any .any .any .any .any .any .any .any (W8 .any .any .any .any .any .any .any .any [.any, .any, .any, .any, .any, .any]))))) rfl (rv := [.tmp 6]) rfl (sx_sound (bl := []) T_tt _ _ _ ?_)
  simp (disch := omega) only [SX0, SX1, SX2, SX3, SX4, SX5, SX6, SX7, SX8, SU0, SY0, SY1, Nat.reduceAdd, Nat.reduceMul, Nat.reduceSub, Nat.reduceLeDiff, Nat.reduceEqDiff, Nat.reduceLT, Nat.reduceBEq, ↓reduceIte, Int.reduceLE, Int.reduceLT, Int.reduceToNat, Int.reduceNeg, reduceCtorEq, Int.reduceEq, SF0, SF1, SF2, DLa0, DCg0, DCe0, DCa0, DCa1, DDb0, DBc0, DBa0, DHb0, DHb1, DHa0, DDc0]
  refine acall_one (validPlanI_c k p hk) (by simp [freeL, AV.free, Plan.free, Work.free]) rfl ?_
  simp (disch := omega) only [SX0, SX1, SX2, SX3, SX4, SX5, SX6, SX7, SX8, SU0, SY0, SY1, Nat.reduceAdd, Nat.reduceMul, Nat.reduceSub, Nat.reduceLeDiff, Nat.reduceEqDiff, Nat.reduceLT, Nat.reduceBEq, ↓reduceIte, Int.reduceLE, Int.reduceLT, Int.reduceToNat, Int.reduceNeg, reduceCtorEq, Int.reduceEq, SF0, SF1, SF2, DLa0, DCg0, DCe0, DCa0, DCa1, DDb0, DBc0, DBa0, DHb0, DHb1, DHa0, DDc0]
  refine br_ndec (fun hv => ?_) (fun hv => ?_)
  · simp (disch := omega) only [SX0, SX1, SX2, SX3, SX4, SX5, SX6, SX7, SX8, SU0, SY0, SY1, Nat.reduceAdd, Nat.reduceMul, Nat.reduceSub, Nat.reduceLeDiff, Nat.reduceEqDiff, Nat.reduceLT, Nat.reduceBEq, ↓reduceIte, Int.reduceLE, Int.reduceLT, Int.reduceToNat, Int.reduceNeg, reduceCtorEq, Int.reduceEq, SF0, SF1, SF2, DLa0, DCg0, DCe0, DCa0, DCa1, DDb0, DBc0, DBa0, DHb0, DHb1, DHa0, DDc0]
    exact fin_val ⟨by unfold Plan.lostA; rw [if_neg fun h => hv h.1], rfl⟩
  simp (disch := omega) only [SX0, SX1, SX2, SX3, SX4, SX5, SX6, SX7, SX8, SU0, SY0, SY1, Nat.reduceAdd, Nat.reduceMul, Nat.reduceSub, Nat.reduceLeDiff, Nat.reduceEqDiff, Nat.reduceLT, Nat.reduceBEq, ↓reduceIte, Int.reduceLE, Int.reduceLT, Int.reduceToNat, Int.reduceNeg, reduceCtorEq, Int.reduceEq, SF0, SF1, SF2, DLa0, DCg0, DCe0, DCa0, DCa1, DDb0, DBc0, DBa0, DHb0, DHb1, DHa0, DDc0]
  refine br_dec (fun h1 => ?_) (fun h1 => ?_)
  · simp (disch := omega) only [SX0, SX1, SX2, SX3, SX4, SX5, SX6, SX7, SX8, SU0, SY0, SY1, Nat.reduceAdd, Nat.reduceMul, Nat.reduceSub, Nat.reduceLeDiff, Nat.reduceEqDiff, Nat.reduceLT, Nat.reduceBEq, ↓reduceIte, Int.reduceLE, Int.reduceLT, Int.reduceToNat, Int.reduceNeg, reduceCtorEq, Int.reduceEq, SF0, SF1, SF2, DLa0, DCg0, DCe0, DCa0, DCa1, DDb0, DBc0, DBa0, DHb0, DHb1, DHa0, DDc0]
    exact fin_val ⟨by unfold Plan.lostA; rw [if_neg fun h => by omega], rfl⟩
  simp (disch := omega) only [SX0, SX1, SX2, SX3, SX4, SX5, SX6, SX7, SX8, SU0, SY0, SY1, Nat.reduceAdd, Nat.reduceMul, Nat.reduceSub, Nat.reduceLeDiff, Nat.reduceEqDiff, Nat.reduceLT, Nat.reduceBEq, ↓reduceIte, Int.reduceLE, Int.reduceLT, Int.reduceToNat, Int.reduceNeg, reduceCtorEq, Int.reduceEq, SF0, SF1, SF2, DLa0, DCg0, DCe0, DCa0, DCa1, DDb0, DBc0, DBa0, DHb0, DHb1, DHa0, DDc0]
  refine br_dec (fun h2 => ?_) (fun h2 => ?_)
  · simp (disch := omega) only [SX0, SX1, SX2, SX3, SX4, SX5, SX6, SX7, SX8, SU0, SY0, SY1, Nat.reduceAdd, Nat.reduceMul, Nat.reduceSub, Nat.reduceLeDiff, Nat.reduceEqDiff, Nat.reduceLT, Nat.reduceBEq, ↓reduceIte, Int.reduceLE, Int.reduceLT, Int.reduceToNat, Int.reduceNeg, reduceCtorEq, Int.reduceEq, SF0, SF1, SF2, DLa0, DCg0, DCe0, DCa0, DCa1, DDb0, DBc0, DBa0, DHb0, DHb1, DHa0, DDc0]
    exact fin_val ⟨by unfold Plan.lostA; rw [if_neg fun h => by omega], rfl⟩
  have W := wastesOfI_c k p hk
  have hwv : (p.vparts k).filterMap wasteOf = p.wastes k.sheet := by unfold Plan.vparts; rw [if_pos hv]; rfl
  rw [hwv] at W
  have hwl := wastes_len hv
  have hwi := wastes_in hv
  have he : p.lostA k n = ((p.wastes k.sheet).map (lost n)).sum := by unfold Plan.lostA; rw [if_pos ⟨hv, by omega⟩]
  rw [he]
  generalize p.wastes k.sheet = u at *
  simp (disch := omega) only [SX0, SX1, SX2, SX3, SX4, SX5, SX6, SX7, SX8, SU0, SY0, SY1, Nat.reduceAdd, Nat.reduceMul, Nat.reduceSub, Nat.reduceLeDiff, Nat.reduceEqDiff, Nat.reduceLT, Nat.reduceBEq, ↓reduceIte, Int.reduceLE, Int.reduceLT, Int.reduceToNat, Int.reduceNeg, reduceCtorEq, Int.reduceEq, SF0, SF1, SF2, DLa0, DCg0, DCe0, DCa0, DCa1, DDb0, DBc0, DBa0, DHb0, DHb1, DHa0, DDc0]
  refine acall_one W (by simp [freeL, AV.free, Plan.free, Work.free]) rfl ?_
  simp (disch := omega) only [SX0, SX1, SX2, SX3, SX4, SX5, SX6, SX7, SX8, SU0, SY0, SY1, Nat.reduceAdd, Nat.reduceMul, Nat.reduceSub, Nat.reduceLeDiff, Nat.reduceEqDiff, Nat.reduceLT, Nat.reduceBEq, ↓reduceIte, Int.reduceLE, Int.reduceLT, Int.reduceToNat, Int.reduceNeg, reduceCtorEq, Int.reduceEq, SF0, SF1, SF2, DLa0, DCg0, DCe0, DCa0, DCa1, DDb0, DBc0, DBa0, DHb0, DHb1, DHa0, DDc0]
  with_reducible refine awp_loop_h 8 38 (fun (i : Nat) => [(7, .val (.int .i64 ((u.map (lost n)).take i).sum)), (24, .sl (u.map Box.cs)), (25, .val (.int .i64 u.length)), (26, .val (.int .i64 i))]) (fun _ => [.cells k.cs, .cells p.cs]) (fun i => i ≤ u.length) (fun i => u.length - i) 0 (Nat.zero_le _) ?_ (fun i hi => sx_sound (bl := []) T_tt _ _ _ ?_)
  · simp (disch := omega) only [SX0, SX1, SX2, SX3, SX4, SX5, SX6, SX7, SX8, SU0, SY0, SY1, Nat.reduceAdd, Nat.reduceMul, Nat.reduceSub, Nat.reduceLeDiff, Nat.reduceEqDiff, Nat.reduceLT, Nat.reduceBEq, ↓reduceIte, Int.reduceLE, Int.reduceLT, Int.reduceToNat, Int.reduceNeg, reduceCtorEq, Int.reduceEq, SF0, SF1, SF2, DLa0, DCg0, DCe0, DCa0, DCa1, DDb0, DBc0, DBa0, DHb0, DHb1, DHa0, DDc0]
    (refine wk_le ?_ ?_ ?_; (focus (simp [W8, leTm, leAV, AV.under, underL, Work.under, Plan.under]; done)); (focus (simp [leL, OB.under, underL, AV.under, Work.under, Plan.under]; done)); (focus (simp; done)))
  simp (disch := omega) only [SX0, SX1, SX2, SX3, SX4, SX5, SX6, SX7, SX8, SU0, SY0, SY1, Nat.reduceAdd, Nat.reduceMul, Nat.reduceSub, Nat.reduceLeDiff, Nat.reduceEqDiff, Nat.reduceLT, Nat.reduceBEq, ↓reduceIte, Int.reduceLE, Int.reduceLT, Int.reduceToNat, Int.reduceNeg, reduceCtorEq, Int.reduceEq, SF0, SF1, SF2, DLa0, DCg0, DCe0, DCa0, DCa1, DDb0, DBc0, DBa0, DHb0, DHb1, DHa0, DDc0]
  refine br_dec (fun h3 => ?_) (fun h3 => ?_)
  · obtain ⟨b, hb⟩ := get_lt (l := u) (i := i) (by omega)
    have hbs := hwi b (List.mem_of_getElem? hb)
    have hub : (u.map (lost n))[i]? = some (lost n b) := by rw [List.getElem?_map, hb]; rfl
    have e := sum_take hub
    have hs := sum_bd1 (M := 40000) (l := (u.map (lost n)).take i) (by omega) fun y hy => by
      obtain ⟨c, hc, rfl⟩ := List.mem_map.1 (List.mem_of_mem_take hy)
      exact lost_rng (hwi c hc)
    have hsl : ((u.map (lost n)).take i).length ≤ 255 := by rw [List.length_take, List.length_map]; omega
    have hbr := lost_rng (n := n) hbs
    have hA := boxArea_c b hbs
    simp (disch := omega) only [SX0, SX1, SX2, SX3, SX4, SX5, SX6, SX7, SX8, SU0, SY0, SY1, Nat.reduceAdd, Nat.reduceMul, Nat.reduceSub, Nat.reduceLeDiff, Nat.reduceEqDiff, Nat.reduceLT, Nat.reduceBEq, ↓reduceIte, Int.reduceLE, Int.reduceLT, Int.reduceToNat, Int.reduceNeg, reduceCtorEq, Int.reduceEq, SF0, SF1, SF2, DLa0, DCg0, DCe0, DCa0, DCa1, DDb0, DBc0, DBa0, DHb0, DHb1, DHa0, DDc0, hb]
    refine br_dec (fun h4 => ?_) (fun h4 => ?_)
    · have el : lost n b = b.W * b.H := by unfold lost; rw [if_neg (by omega)]
      rw [el] at e hbr
      simp (disch := omega) only [SX0, SX1, SX2, SX3, SX4, SX5, SX6, SX7, SX8, SU0, SY0, SY1, Nat.reduceAdd, Nat.reduceMul, Nat.reduceSub, Nat.reduceLeDiff, Nat.reduceEqDiff, Nat.reduceLT, Nat.reduceBEq, ↓reduceIte, Int.reduceLE, Int.reduceLT, Int.reduceToNat, Int.reduceNeg, reduceCtorEq, Int.reduceEq, SF0, SF1, SF2, DLa0, DCg0, DCe0, DCa0, DCa1, DDb0, DBc0, DBa0, DHb0, DHb1, DHa0, DDc0]
      refine acall_one hA rfl rfl ?_
      simp (disch := omega) only [SX0, SX1, SX2, SX3, SX4, SX5, SX6, SX7, SX8, SU0, SY0, SY1, Nat.reduceAdd, Nat.reduceMul, Nat.reduceSub, Nat.reduceLeDiff, Nat.reduceEqDiff, Nat.reduceLT, Nat.reduceBEq, ↓reduceIte, Int.reduceLE, Int.reduceLT, Int.reduceToNat, Int.reduceNeg, reduceCtorEq, Int.reduceEq, SF0, SF1, SF2, DLa0, DCg0, DCe0, DCa0, DCa1, DDb0, DBc0, DBa0, DHb0, DHb1, DHa0, DDc0]
      refine ⟨i + 1, by omega, by omega, ?_⟩
      (refine wk_le ?_ ?_ ?_; (focus (simp [W8, leTm, leAV, AV.under, underL, Work.under, Plan.under, e]; done)); (focus (simp [leL, OB.under, underL, AV.under, Work.under, Plan.under, e]; done)); (focus (simp; done)))
    simp (disch := omega) only [SX0, SX1, SX2, SX3, SX4, SX5, SX6, SX7, SX8, SU0, SY0, SY1, Nat.reduceAdd, Nat.reduceMul, Nat.reduceSub, Nat.reduceLeDiff, Nat.reduceEqDiff, Nat.reduceLT, Nat.reduceBEq, ↓reduceIte, Int.reduceLE, Int.reduceLT, Int.reduceToNat, Int.reduceNeg, reduceCtorEq, Int.reduceEq, SF0, SF1, SF2, DLa0, DCg0, DCe0, DCa0, DCa1, DDb0, DBc0, DBa0, DHb0, DHb1, DHa0, DDc0]
    refine br_dec (fun h5 => ?_) (fun h5 => ?_)
    · have el : lost n b = b.W * b.H := by unfold lost; rw [if_neg (by omega)]
      rw [el] at e hbr
      simp (disch := omega) only [SX0, SX1, SX2, SX3, SX4, SX5, SX6, SX7, SX8, SU0, SY0, SY1, Nat.reduceAdd, Nat.reduceMul, Nat.reduceSub, Nat.reduceLeDiff, Nat.reduceEqDiff, Nat.reduceLT, Nat.reduceBEq, ↓reduceIte, Int.reduceLE, Int.reduceLT, Int.reduceToNat, Int.reduceNeg, reduceCtorEq, Int.reduceEq, SF0, SF1, SF2, DLa0, DCg0, DCe0, DCa0, DCa1, DDb0, DBc0, DBa0, DHb0, DHb1, DHa0, DDc0]
      refine acall_one hA rfl rfl ?_
      simp (disch := omega) only [SX0, SX1, SX2, SX3, SX4, SX5, SX6, SX7, SX8, SU0, SY0, SY1, Nat.reduceAdd, Nat.reduceMul, Nat.reduceSub, Nat.reduceLeDiff, Nat.reduceEqDiff, Nat.reduceLT, Nat.reduceBEq, ↓reduceIte, Int.reduceLE, Int.reduceLT, Int.reduceToNat, Int.reduceNeg, reduceCtorEq, Int.reduceEq, SF0, SF1, SF2, DLa0, DCg0, DCe0, DCa0, DCa1, DDb0, DBc0, DBa0, DHb0, DHb1, DHa0, DDc0]
      refine ⟨i + 1, by omega, by omega, ?_⟩
      (refine wk_le ?_ ?_ ?_; (focus (simp [W8, leTm, leAV, AV.under, underL, Work.under, Plan.under, e]; done)); (focus (simp [leL, OB.under, underL, AV.under, Work.under, Plan.under, e]; done)); (focus (simp; done)))
    · have el : lost n b = 0 := by unfold lost; rw [if_pos (by omega)]
      rw [el, Int.add_zero] at e
      simp (disch := omega) only [SX0, SX1, SX2, SX3, SX4, SX5, SX6, SX7, SX8, SU0, SY0, SY1, Nat.reduceAdd, Nat.reduceMul, Nat.reduceSub, Nat.reduceLeDiff, Nat.reduceEqDiff, Nat.reduceLT, Nat.reduceBEq, ↓reduceIte, Int.reduceLE, Int.reduceLT, Int.reduceToNat, Int.reduceNeg, reduceCtorEq, Int.reduceEq, SF0, SF1, SF2, DLa0, DCg0, DCe0, DCa0, DCa1, DDb0, DBc0, DBa0, DHb0, DHb1, DHa0, DDc0]
      refine ⟨i + 1, by omega, by omega, ?_⟩
      (refine wk_le ?_ ?_ ?_; (focus (simp [W8, leTm, leAV, AV.under, underL, Work.under, Plan.under, e]; done)); (focus (simp [leL, OB.under, underL, AV.under, Work.under, Plan.under, e]; done)); (focus (simp; done)))
  · simp (disch := omega) only [SX0, SX1, SX2, SX3, SX4, SX5, SX6, SX7, SX8, SU0, SY0, SY1, Nat.reduceAdd, Nat.reduceMul, Nat.reduceSub, Nat.reduceLeDiff, Nat.reduceEqDiff, Nat.reduceLT, Nat.reduceBEq, ↓reduceIte, Int.reduceLE, Int.reduceLT, Int.reduceToNat, Int.reduceNeg, reduceCtorEq, Int.reduceEq, SF0, SF1, SF2, DLa0, DCg0, DCe0, DCa0, DCa1, DDb0, DBc0, DBa0, DHb0, DHb1, DHa0, DDc0]
    exact fin_val ⟨by rw [List.take_of_length_le (by rw [List.length_map]; omega)], rfl⟩

theorem e_lostAreaS : Enters Try.prog 36 := enters_of Try.func36 (by kernel_rfl) (by kernel_rfl)
set_option maxRecDepth 8000 in
set_option maxHeartbeats 4000000 in
theorem lostAreaS_c (k : Work) (p : Plan) (n : Int) (hk : k.Ps.length < 2 ^ 40) : ACalls Try.prog 36 [.agg k.cs, .agg p.cs, .val (.int .i64 n)] [] [] (fun r L => r = .val (.int .i64 (p.lostA k n)) ∧ L = []) := by
  refine acalls_tm T_tt Try.func36 rfl e_lostAreaS 46 rfl (W8 _ _ _ .any .any .any .any .any (W8 .any .any .any .any .any .any .any .any (W8 .any .any .any .any .any .any .any .any (W8 .any .any .any .any .any .any .any .any (W8 .any .any .any .any .any .any .any .any (W8 .any .any .any .any .any .any .any .any [.any])))))) rfl (rv := [.tmp 6]) rfl (sx_sound (bl := []) T_tt _ _ _ ?_)
  simp (disch := omega) only [SX0, SX1, SX2, SX3, SX4, SX5, SX6, SX7, SX8, SU0, SY0, SY1, Nat.reduceAdd, Nat.reduceMul, Nat.reduceSub, Nat.reduceLeDiff, Nat.reduceEqDiff, Nat.reduceLT, Nat.reduceBEq, ↓reduceIte, Int.reduceLE, Int.reduceLT, Int.reduceToNat, Int.reduceNeg, reduceCtorEq, Int.reduceEq, SF0, SF1, SF2, DLa0, DCg0, DCe0, DCa0, DCa1, DDb0, DBc0, DBa0, DHb0, DHb1, DHa0, DDc0]
  refine acall_one (validPlanS_c k p hk) (by simp [freeL, AV.free, Plan.free, Work.free]) rfl ?_
  simp (disch := omega) only [SX0, SX1, SX2, SX3, SX4, SX5, SX6, SX7, SX8, SU0, SY0, SY1, Nat.reduceAdd, Nat.reduceMul, Nat.reduceSub, Nat.reduceLeDiff, Nat.reduceEqDiff, Nat.reduceLT, Nat.reduceBEq, ↓reduceIte, Int.reduceLE, Int.reduceLT, Int.reduceToNat, Int.reduceNeg, reduceCtorEq, Int.reduceEq, SF0, SF1, SF2, DLa0, DCg0, DCe0, DCa0, DCa1, DDb0, DBc0, DBa0, DHb0, DHb1, DHa0, DDc0]
  refine br_ndec (fun hv => ?_) (fun hv => ?_)
  · simp (disch := omega) only [SX0, SX1, SX2, SX3, SX4, SX5, SX6, SX7, SX8, SU0, SY0, SY1, Nat.reduceAdd, Nat.reduceMul, Nat.reduceSub, Nat.reduceLeDiff, Nat.reduceEqDiff, Nat.reduceLT, Nat.reduceBEq, ↓reduceIte, Int.reduceLE, Int.reduceLT, Int.reduceToNat, Int.reduceNeg, reduceCtorEq, Int.reduceEq, SF0, SF1, SF2, DLa0, DCg0, DCe0, DCa0, DCa1, DDb0, DBc0, DBa0, DHb0, DHb1, DHa0, DDc0]
    exact fin_val ⟨by unfold Plan.lostA; rw [if_neg fun h => hv h.1], rfl⟩
  simp (disch := omega) only [SX0, SX1, SX2, SX3, SX4, SX5, SX6, SX7, SX8, SU0, SY0, SY1, Nat.reduceAdd, Nat.reduceMul, Nat.reduceSub, Nat.reduceLeDiff, Nat.reduceEqDiff, Nat.reduceLT, Nat.reduceBEq, ↓reduceIte, Int.reduceLE, Int.reduceLT, Int.reduceToNat, Int.reduceNeg, reduceCtorEq, Int.reduceEq, SF0, SF1, SF2, DLa0, DCg0, DCe0, DCa0, DCa1, DDb0, DBc0, DBa0, DHb0, DHb1, DHa0, DDc0]
  refine acall_one (inRange_c _ _ _) rfl rfl ?_
  simp (disch := omega) only [SX0, SX1, SX2, SX3, SX4, SX5, SX6, SX7, SX8, SU0, SY0, SY1, Nat.reduceAdd, Nat.reduceMul, Nat.reduceSub, Nat.reduceLeDiff, Nat.reduceEqDiff, Nat.reduceLT, Nat.reduceBEq, ↓reduceIte, Int.reduceLE, Int.reduceLT, Int.reduceToNat, Int.reduceNeg, reduceCtorEq, Int.reduceEq, SF0, SF1, SF2, DLa0, DCg0, DCe0, DCa0, DCa1, DDb0, DBc0, DBa0, DHb0, DHb1, DHa0, DDc0]
  refine br_ndec (fun h1 => ?_) (fun h1 => ?_)
  · simp (disch := omega) only [SX0, SX1, SX2, SX3, SX4, SX5, SX6, SX7, SX8, SU0, SY0, SY1, Nat.reduceAdd, Nat.reduceMul, Nat.reduceSub, Nat.reduceLeDiff, Nat.reduceEqDiff, Nat.reduceLT, Nat.reduceBEq, ↓reduceIte, Int.reduceLE, Int.reduceLT, Int.reduceToNat, Int.reduceNeg, reduceCtorEq, Int.reduceEq, SF0, SF1, SF2, DLa0, DCg0, DCe0, DCa0, DCa1, DDb0, DBc0, DBa0, DHb0, DHb1, DHa0, DDc0]
    exact fin_val ⟨by unfold Plan.lostA; rw [if_neg fun h => h1 h.2], rfl⟩
  have W := wastesOfS_c k p hv
  have hwl := wastes_len hv
  have hwi := wastes_in hv
  have he : p.lostA k n = ((p.wastes k.sheet).map (lost n)).sum := by unfold Plan.lostA; rw [if_pos ⟨hv, h1⟩]
  rw [he]
  generalize p.wastes k.sheet = u at *
  simp (disch := omega) only [SX0, SX1, SX2, SX3, SX4, SX5, SX6, SX7, SX8, SU0, SY0, SY1, Nat.reduceAdd, Nat.reduceMul, Nat.reduceSub, Nat.reduceLeDiff, Nat.reduceEqDiff, Nat.reduceLT, Nat.reduceBEq, ↓reduceIte, Int.reduceLE, Int.reduceLT, Int.reduceToNat, Int.reduceNeg, reduceCtorEq, Int.reduceEq, SF0, SF1, SF2, DLa0, DCg0, DCe0, DCa0, DCa1, DDb0, DBc0, DBa0, DHb0, DHb1, DHa0, DDc0]
  refine acall_one W (by simp [freeL, AV.free, Plan.free, Work.free]) rfl ?_
  simp (disch := omega) only [SX0, SX1, SX2, SX3, SX4, SX5, SX6, SX7, SX8, SU0, SY0, SY1, Nat.reduceAdd, Nat.reduceMul, Nat.reduceSub, Nat.reduceLeDiff, Nat.reduceEqDiff, Nat.reduceLT, Nat.reduceBEq, ↓reduceIte, Int.reduceLE, Int.reduceLT, Int.reduceToNat, Int.reduceNeg, reduceCtorEq, Int.reduceEq, SF0, SF1, SF2, DLa0, DCg0, DCe0, DCa0, DCa1, DDb0, DBc0, DBa0, DHb0, DHb1, DHa0, DDc0]
  with_reducible refine awp_loop_h 10 39 (fun (i : Nat) => [(7, .val (.int .i64 ((u.map (lost n)).take i).sum)), (9, .val (.int .i64 i))]) (fun _ => [.cells k.cs, .cells p.cs]) (fun i => i ≤ u.length) (fun i => u.length - i) 0 (Nat.zero_le _) ?_ (fun i hi => sx_sound (bl := []) T_tt _ _ _ ?_)
  · simp (disch := omega) only [SX0, SX1, SX2, SX3, SX4, SX5, SX6, SX7, SX8, SU0, SY0, SY1, Nat.reduceAdd, Nat.reduceMul, Nat.reduceSub, Nat.reduceLeDiff, Nat.reduceEqDiff, Nat.reduceLT, Nat.reduceBEq, ↓reduceIte, Int.reduceLE, Int.reduceLT, Int.reduceToNat, Int.reduceNeg, reduceCtorEq, Int.reduceEq, SF0, SF1, SF2, DLa0, DCg0, DCe0, DCa0, DCa1, DDb0, DBc0, DBa0, DHb0, DHb1, DHa0, DDc0]
    (refine wk_le ?_ ?_ ?_; (focus (simp [W8, leTm, leAV, AV.under, underL, Work.under, Plan.under]; done)); (focus (simp [leL, OB.under, underL, AV.under, Work.under, Plan.under]; done)); (focus (simp; done)))
  simp (disch := omega) only [SX0, SX1, SX2, SX3, SX4, SX5, SX6, SX7, SX8, SU0, SY0, SY1, Nat.reduceAdd, Nat.reduceMul, Nat.reduceSub, Nat.reduceLeDiff, Nat.reduceEqDiff, Nat.reduceLT, Nat.reduceBEq, ↓reduceIte, Int.reduceLE, Int.reduceLT, Int.reduceToNat, Int.reduceNeg, reduceCtorEq, Int.reduceEq, SF0, SF1, SF2, DLa0, DCg0, DCe0, DCa0, DCa1, DDb0, DBc0, DBa0, DHb0, DHb1, DHa0, DDc0]
  refine br_dec (fun h3 => ?_) (fun h3 => ?_)
  · obtain ⟨b, hb⟩ := get_lt (l := u) (i := i) (by omega)
    have hbs := hwi b (List.mem_of_getElem? hb)
    have hub : (u.map (lost n))[i]? = some (lost n b) := by rw [List.getElem?_map, hb]; rfl
    have e := sum_take hub
    have hs := sum_bd1 (M := 40000) (l := (u.map (lost n)).take i) (by omega) fun y hy => by
      obtain ⟨c, hc, rfl⟩ := List.mem_map.1 (List.mem_of_mem_take hy)
      exact lost_rng (hwi c hc)
    have hsl : ((u.map (lost n)).take i).length ≤ 255 := by rw [List.length_take, List.length_map]; omega
    have hbr := lost_rng (n := n) hbs
    have hmr : 0 ≤ b.W * b.H ∧ b.W * b.H ≤ 40000 := by
      have := hbs
      unfold Box.sane at this
      have := mul_rng (a := b.W) (b := b.H) (m := 200) (n := 200) ⟨by omega, by omega⟩ ⟨by omega, by omega⟩
      omega
    simp (disch := omega) only [SX0, SX1, SX2, SX3, SX4, SX5, SX6, SX7, SX8, SU0, SY0, SY1, Nat.reduceAdd, Nat.reduceMul, Nat.reduceSub, Nat.reduceLeDiff, Nat.reduceEqDiff, Nat.reduceLT, Nat.reduceBEq, ↓reduceIte, Int.reduceLE, Int.reduceLT, Int.reduceToNat, Int.reduceNeg, reduceCtorEq, Int.reduceEq, SF0, SF1, SF2, DLa0, DCg0, DCe0, DCa0, DCa1, DDb0, DBc0, DBa0, DHb0, DHb1, DHa0, DDc0, hb]
    refine acall_one (isRemnant_c b n) rfl rfl ?_
    simp (disch := omega) only [SX0, SX1, SX2, SX3, SX4, SX5, SX6, SX7, SX8, SU0, SY0, SY1, Nat.reduceAdd, Nat.reduceMul, Nat.reduceSub, Nat.reduceLeDiff, Nat.reduceEqDiff, Nat.reduceLT, Nat.reduceBEq, ↓reduceIte, Int.reduceLE, Int.reduceLT, Int.reduceToNat, Int.reduceNeg, reduceCtorEq, Int.reduceEq, SF0, SF1, SF2, DLa0, DCg0, DCe0, DCa0, DCa1, DDb0, DBc0, DBa0, DHb0, DHb1, DHa0, DDc0]
    refine br_ndec (fun h4 => ?_) (fun h4 => ?_)
    · have el : lost n b = b.W * b.H := by unfold lost; rw [if_neg h4]
      rw [el] at e hbr
      simp (disch := omega) only [SX0, SX1, SX2, SX3, SX4, SX5, SX6, SX7, SX8, SU0, SY0, SY1, Nat.reduceAdd, Nat.reduceMul, Nat.reduceSub, Nat.reduceLeDiff, Nat.reduceEqDiff, Nat.reduceLT, Nat.reduceBEq, ↓reduceIte, Int.reduceLE, Int.reduceLT, Int.reduceToNat, Int.reduceNeg, reduceCtorEq, Int.reduceEq, SF0, SF1, SF2, DLa0, DCg0, DCe0, DCa0, DCa1, DDb0, DBc0, DBa0, DHb0, DHb1, DHa0, DDc0]
      refine awp_drawA T_tt mixed (by decide +kernel) (by kernel_rfl) (by kernel_rfl) ?_
      simp (disch := omega) only [SX0, SX1, SX2, SX3, SX4, SX5, SX6, SX7, SX8, SU0, SY0, SY1, Nat.reduceAdd, Nat.reduceMul, Nat.reduceSub, Nat.reduceLeDiff, Nat.reduceEqDiff, Nat.reduceLT, Nat.reduceBEq, ↓reduceIte, Int.reduceLE, Int.reduceLT, Int.reduceToNat, Int.reduceNeg, reduceCtorEq, Int.reduceEq, SF0, SF1, SF2, DLa0, DCg0, DCe0, DCa0, DCa1, DDb0, DBc0, DBa0, DHb0, DHb1, DHa0, DDc0, hb, Box.cs]
      refine ⟨i + 1, by omega, by omega, ?_⟩
      (refine wk_le ?_ ?_ ?_; (focus (simp [W8, leTm, leAV, AV.under, underL, Work.under, Plan.under, e]; done)); (focus (simp [leL, OB.under, underL, AV.under, Work.under, Plan.under, e]; done)); (focus (simp; done)))
    · have el : lost n b = 0 := by unfold lost; rw [if_pos h4]
      rw [el, Int.add_zero] at e
      simp (disch := omega) only [SX0, SX1, SX2, SX3, SX4, SX5, SX6, SX7, SX8, SU0, SY0, SY1, Nat.reduceAdd, Nat.reduceMul, Nat.reduceSub, Nat.reduceLeDiff, Nat.reduceEqDiff, Nat.reduceLT, Nat.reduceBEq, ↓reduceIte, Int.reduceLE, Int.reduceLT, Int.reduceToNat, Int.reduceNeg, reduceCtorEq, Int.reduceEq, SF0, SF1, SF2, DLa0, DCg0, DCe0, DCa0, DCa1, DDb0, DBc0, DBa0, DHb0, DHb1, DHa0, DDc0]
      refine ⟨i + 1, by omega, by omega, ?_⟩
      (refine wk_le ?_ ?_ ?_; (focus (simp [W8, leTm, leAV, AV.under, underL, Work.under, Plan.under, e]; done)); (focus (simp [leL, OB.under, underL, AV.under, Work.under, Plan.under, e]; done)); (focus (simp; done)))
  · simp (disch := omega) only [SX0, SX1, SX2, SX3, SX4, SX5, SX6, SX7, SX8, SU0, SY0, SY1, Nat.reduceAdd, Nat.reduceMul, Nat.reduceSub, Nat.reduceLeDiff, Nat.reduceEqDiff, Nat.reduceLT, Nat.reduceBEq, ↓reduceIte, Int.reduceLE, Int.reduceLT, Int.reduceToNat, Int.reduceNeg, reduceCtorEq, Int.reduceEq, SF0, SF1, SF2, DLa0, DCg0, DCe0, DCa0, DCa1, DDb0, DBc0, DBa0, DHb0, DHb1, DHa0, DDc0]
    exact fin_val ⟨by rw [List.take_of_length_le (by rw [List.length_map]; omega)], rfl⟩

def FnExactLostArea_hyp : Prop := ∀ (x0 : Work) (_ : x0.Ps.length ≤ 9223372036854775807) (x1 : Plan) (_ : x1.Lens) (x2 : Int) (_ : -9223372036854775808 ≤ x2 ∧ x2 ≤ 9223372036854775807), ACalls Try.prog 6 [.agg x0.cs, .agg x1.cs, .val (.int .i64 x2)] [] [] (fun r L => r = .val (.bool true) ∧ L = [])
theorem e_fnExactLostArea : Enters Try.prog 6 := enters_of Try.func6 (by kernel_rfl) (by kernel_rfl)
set_option maxHeartbeats 1000000 in
theorem fnExactLostArea_c : FnExactLostArea_hyp := by
  intro k hk p hp n hn
  refine acalls_tm T_tt Try.func6 rfl e_fnExactLostArea 46 rfl (W8 _ _ _ .any .any .any .any .any (W8 .any .any .any .any .any .any .any .any (W8 .any .any .any .any .any .any .any .any (W8 .any .any .any .any .any .any .any .any (W8 .any .any .any .any .any .any .any .any (W8 .any .any .any .any .any .any .any .any [.any])))))) rfl (rv := [.tmp 6]) rfl (sx_sound (bl := []) T_tt _ _ _ ?_)
  simp (disch := omega) only [SX0, SX1, SX2, SX3, SX4, SX5, SX6, SX7, SX8, SU0, SY0, SY1, Nat.reduceAdd, Nat.reduceMul, Nat.reduceSub, Nat.reduceLeDiff, Nat.reduceEqDiff, Nat.reduceLT, Nat.reduceBEq, ↓reduceIte, Int.reduceLE, Int.reduceLT, Int.reduceToNat, Int.reduceNeg, reduceCtorEq, Int.reduceEq, SF0, SF1, SF2, DLa0, DCg0, DCe0, DCa0, DCa1, DDb0, DBc0, DBa0, DHb0, DHb1, DHa0, DDc0]
  refine acall_one (szWork_c k 1048576 hk (by omega)) rfl rfl ?_
  simp (disch := omega) only [SX0, SX1, SX2, SX3, SX4, SX5, SX6, SX7, SX8, SU0, SY0, SY1, Nat.reduceAdd, Nat.reduceMul, Nat.reduceSub, Nat.reduceLeDiff, Nat.reduceEqDiff, Nat.reduceLT, Nat.reduceBEq, ↓reduceIte, Int.reduceLE, Int.reduceLT, Int.reduceToNat, Int.reduceNeg, reduceCtorEq, Int.reduceEq, SF0, SF1, SF2, DLa0, DCg0, DCe0, DCa0, DCa1, DDb0, DBc0, DBa0, DHb0, DHb1, DHa0, DDc0]
  refine br_dec (fun h1 => ?_) (fun h1 => ?_)
  · simp (disch := omega) only [SX0, SX1, SX2, SX3, SX4, SX5, SX6, SX7, SX8, SU0, SY0, SY1, Nat.reduceAdd, Nat.reduceMul, Nat.reduceSub, Nat.reduceLeDiff, Nat.reduceEqDiff, Nat.reduceLT, Nat.reduceBEq, ↓reduceIte, Int.reduceLE, Int.reduceLT, Int.reduceToNat, Int.reduceNeg, reduceCtorEq, Int.reduceEq, SF0, SF1, SF2, DLa0, DCg0, DCe0, DCa0, DCa1, DDb0, DBc0, DBa0, DHb0, DHb1, DHa0, DDc0]
    exact fin_val ⟨rfl, rfl⟩
  obtain ⟨hk1, e1⟩ := leftOf_pos h1
  rw [e1]
  simp (disch := omega) only [SX0, SX1, SX2, SX3, SX4, SX5, SX6, SX7, SX8, SU0, SY0, SY1, Nat.reduceAdd, Nat.reduceMul, Nat.reduceSub, Nat.reduceLeDiff, Nat.reduceEqDiff, Nat.reduceLT, Nat.reduceBEq, ↓reduceIte, Int.reduceLE, Int.reduceLT, Int.reduceToNat, Int.reduceNeg, reduceCtorEq, Int.reduceEq, SF0, SF1, SF2, DLa0, DCg0, DCe0, DCa0, DCa1, DDb0, DBc0, DBa0, DHb0, DHb1, DHa0, DDc0]
  refine acall_one (szPlan_c p _ hp (by omega)) (by simp [freeL, AV.free, Plan.free]) rfl ?_
  simp (disch := omega) only [SX0, SX1, SX2, SX3, SX4, SX5, SX6, SX7, SX8, SU0, SY0, SY1, Nat.reduceAdd, Nat.reduceMul, Nat.reduceSub, Nat.reduceLeDiff, Nat.reduceEqDiff, Nat.reduceLT, Nat.reduceBEq, ↓reduceIte, Int.reduceLE, Int.reduceLT, Int.reduceToNat, Int.reduceNeg, reduceCtorEq, Int.reduceEq, SF0, SF1, SF2, DLa0, DCg0, DCe0, DCa0, DCa1, DDb0, DBc0, DBa0, DHb0, DHb1, DHa0, DDc0]
  refine br_dec (fun h2 => ?_) (fun h2 => ?_)
  · simp (disch := omega) only [SX0, SX1, SX2, SX3, SX4, SX5, SX6, SX7, SX8, SU0, SY0, SY1, Nat.reduceAdd, Nat.reduceMul, Nat.reduceSub, Nat.reduceLeDiff, Nat.reduceEqDiff, Nat.reduceLT, Nat.reduceBEq, ↓reduceIte, Int.reduceLE, Int.reduceLT, Int.reduceToNat, Int.reduceNeg, reduceCtorEq, Int.reduceEq, SF0, SF1, SF2, DLa0, DCg0, DCe0, DCa0, DCa1, DDb0, DBc0, DBa0, DHb0, DHb1, DHa0, DDc0]
    exact fin_val ⟨rfl, rfl⟩
  have h3 := (leftOf_pos h2).1
  have hpn : p.nodes ≤ 1048577 := by omega
  have hkn : k.Ps.length ≤ 1048576 := by omega
  have TW := toWork_c k hkn
  have TP := toPlan_c p hpn
  simp (disch := omega) only [SX0, SX1, SX2, SX3, SX4, SX5, SX6, SX7, SX8, SU0, SY0, SY1, Nat.reduceAdd, Nat.reduceMul, Nat.reduceSub, Nat.reduceLeDiff, Nat.reduceEqDiff, Nat.reduceLT, Nat.reduceBEq, ↓reduceIte, Int.reduceLE, Int.reduceLT, Int.reduceToNat, Int.reduceNeg, reduceCtorEq, Int.reduceEq, SF0, SF1, SF2, DLa0, DCg0, DCe0, DCa0, DCa1, DDb0, DBc0, DBa0, DHb0, DHb1, DHa0, DDc0]
  refine awp_drawA T_tt mixed (by decide +kernel) (by kernel_rfl) (by kernel_rfl) ?_
  simp (disch := omega) only [SX0, SX1, SX2, SX3, SX4, SX5, SX6, SX7, SX8, SU0, SY0, SY1, Nat.reduceAdd, Nat.reduceMul, Nat.reduceSub, Nat.reduceLeDiff, Nat.reduceEqDiff, Nat.reduceLT, Nat.reduceBEq, ↓reduceIte, Int.reduceLE, Int.reduceLT, Int.reduceToNat, Int.reduceNeg, reduceCtorEq, Int.reduceEq, SF0, SF1, SF2, DLa0, DCg0, DCe0, DCa0, DCa1, DDb0, DBc0, DBa0, DHb0, DHb1, DHa0, DDc0]
  refine qc_one TW rfl ?_
  simp (disch := omega) only [SX0, SX1, SX2, SX3, SX4, SX5, SX6, SX7, SX8, SU0, SY0, SY1, Nat.reduceAdd, Nat.reduceMul, Nat.reduceSub, Nat.reduceLeDiff, Nat.reduceEqDiff, Nat.reduceLT, Nat.reduceBEq, ↓reduceIte, Int.reduceLE, Int.reduceLT, Int.reduceToNat, Int.reduceNeg, reduceCtorEq, Int.reduceEq, SF0, SF1, SF2, DLa0, DCg0, DCe0, DCa0, DCa1, DDb0, DBc0, DBa0, DHb0, DHb1, DHa0, DDc0]
  refine qc_one TP (by simp [freeL, AV.free, Plan.free]) ?_
  simp (disch := omega) only [SX0, SX1, SX2, SX3, SX4, SX5, SX6, SX7, SX8, SU0, SY0, SY1, Nat.reduceAdd, Nat.reduceMul, Nat.reduceSub, Nat.reduceLeDiff, Nat.reduceEqDiff, Nat.reduceLT, Nat.reduceBEq, ↓reduceIte, Int.reduceLE, Int.reduceLT, Int.reduceToNat, Int.reduceNeg, reduceCtorEq, Int.reduceEq, SF0, SF1, SF2, DLa0, DCg0, DCe0, DCa0, DCa1, DDb0, DBc0, DBa0, DHb0, DHb1, DHa0, DDc0]
  refine qc_one (lostAreaS_c k p n (by omega)) (by simp [freeL, AV.free, Plan.free, Work.free]) ?_
  simp (disch := omega) only [SX0, SX1, SX2, SX3, SX4, SX5, SX6, SX7, SX8, SU0, SY0, SY1, Nat.reduceAdd, Nat.reduceMul, Nat.reduceSub, Nat.reduceLeDiff, Nat.reduceEqDiff, Nat.reduceLT, Nat.reduceBEq, ↓reduceIte, Int.reduceLE, Int.reduceLT, Int.reduceToNat, Int.reduceNeg, reduceCtorEq, Int.reduceEq, SF0, SF1, SF2, DLa0, DCg0, DCe0, DCa0, DCa1, DDb0, DBc0, DBa0, DHb0, DHb1, DHa0, DDc0]
  refine acall_one TW rfl rfl ?_
  simp (disch := omega) only [SX0, SX1, SX2, SX3, SX4, SX5, SX6, SX7, SX8, SU0, SY0, SY1, Nat.reduceAdd, Nat.reduceMul, Nat.reduceSub, Nat.reduceLeDiff, Nat.reduceEqDiff, Nat.reduceLT, Nat.reduceBEq, ↓reduceIte, Int.reduceLE, Int.reduceLT, Int.reduceToNat, Int.reduceNeg, reduceCtorEq, Int.reduceEq, SF0, SF1, SF2, DLa0, DCg0, DCe0, DCa0, DCa1, DDb0, DBc0, DBa0, DHb0, DHb1, DHa0, DDc0]
  refine acall_one TP (by simp [freeL, AV.free, Plan.free]) (by simp [AV.free, Plan.free]) ?_
  simp (disch := omega) only [SX0, SX1, SX2, SX3, SX4, SX5, SX6, SX7, SX8, SU0, SY0, SY1, Nat.reduceAdd, Nat.reduceMul, Nat.reduceSub, Nat.reduceLeDiff, Nat.reduceEqDiff, Nat.reduceLT, Nat.reduceBEq, ↓reduceIte, Int.reduceLE, Int.reduceLT, Int.reduceToNat, Int.reduceNeg, reduceCtorEq, Int.reduceEq, SF0, SF1, SF2, DLa0, DCg0, DCe0, DCa0, DCa1, DDb0, DBc0, DBa0, DHb0, DHb1, DHa0, DDc0]
  refine acall_one (lostAreaI_c k p n (by omega)) (by simp [freeL, AV.free, Plan.free, Work.free]) rfl ?_
  simp (disch := omega) only [SX0, SX1, SX2, SX3, SX4, SX5, SX6, SX7, SX8, SU0, SY0, SY1, Nat.reduceAdd, Nat.reduceMul, Nat.reduceSub, Nat.reduceLeDiff, Nat.reduceEqDiff, Nat.reduceLT, Nat.reduceBEq, ↓reduceIte, Int.reduceLE, Int.reduceLT, Int.reduceToNat, Int.reduceNeg, reduceCtorEq, Int.reduceEq, SF0, SF1, SF2, DLa0, DCg0, DCe0, DCa0, DCa1, DDb0, DBc0, DBa0, DHb0, DHb1, DHa0, DDc0]
  refine awp_drawA T_tt mixed (by decide +kernel) (by kernel_rfl) (by kernel_rfl) ?_
  simp (disch := omega) only [SX0, SX1, SX2, SX3, SX4, SX5, SX6, SX7, SX8, SU0, SY0, SY1, Nat.reduceAdd, Nat.reduceMul, Nat.reduceSub, Nat.reduceLeDiff, Nat.reduceEqDiff, Nat.reduceLT, Nat.reduceBEq, ↓reduceIte, Int.reduceLE, Int.reduceLT, Int.reduceToNat, Int.reduceNeg, reduceCtorEq, Int.reduceEq, SF0, SF1, SF2, DLa0, DCg0, DCe0, DCa0, DCa1, DDb0, DBc0, DBa0, DHb0, DHb1, DHa0, DDc0]
  refine qc_one TW rfl ?_
  simp (disch := omega) only [SX0, SX1, SX2, SX3, SX4, SX5, SX6, SX7, SX8, SU0, SY0, SY1, Nat.reduceAdd, Nat.reduceMul, Nat.reduceSub, Nat.reduceLeDiff, Nat.reduceEqDiff, Nat.reduceLT, Nat.reduceBEq, ↓reduceIte, Int.reduceLE, Int.reduceLT, Int.reduceToNat, Int.reduceNeg, reduceCtorEq, Int.reduceEq, SF0, SF1, SF2, DLa0, DCg0, DCe0, DCa0, DCa1, DDb0, DBc0, DBa0, DHb0, DHb1, DHa0, DDc0]
  refine qc_one (eqWork_c k (by omega)) rfl ?_
  simp (disch := omega) only [SX0, SX1, SX2, SX3, SX4, SX5, SX6, SX7, SX8, SU0, SY0, SY1, Nat.reduceAdd, Nat.reduceMul, Nat.reduceSub, Nat.reduceLeDiff, Nat.reduceEqDiff, Nat.reduceLT, Nat.reduceBEq, ↓reduceIte, Int.reduceLE, Int.reduceLT, Int.reduceToNat, Int.reduceNeg, reduceCtorEq, Int.reduceEq, SF0, SF1, SF2, DLa0, DCg0, DCe0, DCa0, DCa1, DDb0, DBc0, DBa0, DHb0, DHb1, DHa0, DDc0]
  refine awp_drawA T_tt mixed (by decide +kernel) (by kernel_rfl) (by kernel_rfl) ?_
  simp (disch := omega) only [SX0, SX1, SX2, SX3, SX4, SX5, SX6, SX7, SX8, SU0, SY0, SY1, Nat.reduceAdd, Nat.reduceMul, Nat.reduceSub, Nat.reduceLeDiff, Nat.reduceEqDiff, Nat.reduceLT, Nat.reduceBEq, ↓reduceIte, Int.reduceLE, Int.reduceLT, Int.reduceToNat, Int.reduceNeg, reduceCtorEq, Int.reduceEq, SF0, SF1, SF2, DLa0, DCg0, DCe0, DCa0, DCa1, DDb0, DBc0, DBa0, DHb0, DHb1, DHa0, DDc0]
  refine qc_one TP (by simp [freeL, AV.free, Plan.free]) ?_
  simp (disch := omega) only [SX0, SX1, SX2, SX3, SX4, SX5, SX6, SX7, SX8, SU0, SY0, SY1, Nat.reduceAdd, Nat.reduceMul, Nat.reduceSub, Nat.reduceLeDiff, Nat.reduceEqDiff, Nat.reduceLT, Nat.reduceBEq, ↓reduceIte, Int.reduceLE, Int.reduceLT, Int.reduceToNat, Int.reduceNeg, reduceCtorEq, Int.reduceEq, SF0, SF1, SF2, DLa0, DCg0, DCe0, DCa0, DCa1, DDb0, DBc0, DBa0, DHb0, DHb1, DHa0, DDc0]
  refine qc_one (eqPlan_c p hpn) (by simp [freeL, AV.free, Plan.free]) ?_
  simp (disch := omega) only [SX0, SX1, SX2, SX3, SX4, SX5, SX6, SX7, SX8, SU0, SY0, SY1, Nat.reduceAdd, Nat.reduceMul, Nat.reduceSub, Nat.reduceLeDiff, Nat.reduceEqDiff, Nat.reduceLT, Nat.reduceBEq, ↓reduceIte, Int.reduceLE, Int.reduceLT, Int.reduceToNat, Int.reduceNeg, reduceCtorEq, Int.reduceEq, SF0, SF1, SF2, DLa0, DCg0, DCe0, DCa0, DCa1, DDb0, DBc0, DBa0, DHb0, DHb1, DHa0, DDc0]
  exact fin_val ⟨rfl, rfl⟩
end Go.Pc
