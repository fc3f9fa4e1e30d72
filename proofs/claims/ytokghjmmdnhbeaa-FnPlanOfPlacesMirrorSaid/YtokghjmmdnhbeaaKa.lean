/- Pruned plans: what the program computes; the law of pruned plans: it holds of all bytes. -/
import Derived.Test.YtokghjmmdnhbeaaIb
import Derived.Test.YtokghjmmdnhbeaaRow
set_option linter.unusedSimpArgs false
set_option linter.unusedVariables false
namespace Go.Pc
open Go Go.Proofs

/-- Whether a plan has a pane. -/
def Plan.hasP : Plan → Bool
  | .mk op at_ pa tu ks => if op = 2 ∨ op = 3 then match ks with | [x, y] => x.hasP || y.hasP | _ => false else decide (op = 1)
theorem Plan.hasP_cut {p x y : Plan} (hc : p.cut) (hk : p.ks = [x, y]) : p.hasP = (x.hasP || y.hasP) := by
  cases p; simp only [Plan.ks] at hk; subst hk; unfold Plan.cut at hc; simp only [Plan.op] at hc; rw [Plan.hasP.eq_def]; simp only [if_pos hc]
theorem Plan.hasP_leaf {p : Plan} (hc : ¬ p.cut) : p.hasP = decide (p.op = 1) := by
  cases p; unfold Plan.cut at hc; simp only [Plan.op] at hc; rw [Plan.hasP.eq_def]; simp only [if_neg hc, Plan.op] <;> rfl
/-- Without cuts in waste. -/
def Plan.prune : Plan → Plan
  | .mk op at_ pa tu ks => if op = 2 ∨ op = 3 then match ks with | [x, y] => if (x.hasP || y.hasP) = true then .mk op at_ 0 false [x.prune, y.prune] else .zero | _ => .mk op at_ pa tu ks else .mk op at_ pa tu ks
theorem Plan.prune_cut {p x y : Plan} (hc : p.cut) (hk : p.ks = [x, y]) : p.prune = if (x.hasP || y.hasP) = true then .mk p.op p.at_ 0 false [x.prune, y.prune] else .zero := by
  cases p; simp only [Plan.ks] at hk; subst hk; unfold Plan.cut at hc; simp only [Plan.op] at hc; rw [Plan.prune.eq_def]; simp only [if_pos hc, Plan.op, Plan.at_]
theorem Plan.prune_leaf {p : Plan} (hc : ¬ p.cut) : p.prune = p := by
  cases p; unfold Plan.cut at hc; simp only [Plan.op] at hc; rw [Plan.prune.eq_def]; simp only [if_neg hc]

theorem Plan.noP_places : ∀ (p : Plan), p.wf = true → p.hasP = false → ∀ b, p.places b = [] :=
  Plan.wf_ind (fun p hw hc h b => by
    rw [Plan.hasP_leaf hc] at h
    unfold Plan.places
    rw [Plan.parts_leaf hc]
    simp [placeOf, of_decide_eq_false h]) (fun p x y hw hc hk hx hy ix iy h b => by
    rw [Plan.hasP_cut hc hk, Bool.or_eq_false_iff] at h
    have h1 : placeOf (p, b) = none := by unfold placeOf; rw [if_neg]; simp only; unfold Plan.cut at hc; omega
    have jx := ix h.1
    have jy := iy h.2
    unfold Plan.places at *
    rw [Plan.parts_cut hc hk, List.filterMap_cons, h1, List.filterMap_append, jx, jy]; rfl)
theorem Plan.zero_places (b : Box) : Plan.zero.places b = [] := Plan.noP_places _ Plan.zero_wf (by decide) b

/-- All that is told of a pruned plan. -/
theorem Plan.prune_all (k : Work) : ∀ (p : Plan), p.wf = true → p.prune.wf = true ∧ p.prune.nodes ≤ p.nodes ∧ (∀ w h, p.fits k w h = true → p.prune.fits k w h = true) ∧ ∀ b : Box, p.prune.places b = p.places b :=
  Plan.wf_ind (fun p hw hc => by
    rw [Plan.prune_leaf hc]
    exact ⟨hw, Nat.le_refl _, fun _ _ h => h, fun _ => rfl⟩) (fun p x y hw hc hk hx hy ix iy => by
    obtain ⟨w1, n1, f1, m1⟩ := ix
    obtain ⟨w2, n2, f2, m2⟩ := iy
    have hpt := Plan.cut_pt hw hc
    have hn := Plan.nodes_two hk
    rw [Plan.prune_cut hc hk]
    split
    · generalize hq : Plan.mk p.op p.at_ 0 false [x.prune, y.prune] = q
      have qo : q.op = p.op := by rw [← hq]; rfl
      have qa : q.at_ = p.at_ := by rw [← hq]; rfl
      have qk : q.ks = [x.prune, y.prune] := by rw [← hq]; rfl
      have qc : q.cut := by unfold Plan.cut at *; rw [qo]; exact hc
      refine ⟨Plan.wf_mk qc qk (by rw [← hq]; rfl) (by rw [← hq]; rfl) w1 w2, by rw [Plan.nodes_two qk, hn]; omega, fun w h hf => ?_, fun b => ?_⟩
      · rcases hc with h2 | h3
        · rw [Plan.fits_down _ p _ _ _ _ h2 hk] at hf
          rw [Plan.fits_down _ q _ _ _ _ (qo.trans h2) qk, qa]
          simp only [Bool.and_eq_true] at *
          exact ⟨⟨hf.1.1, f1 _ _ hf.1.2⟩, f2 _ _ hf.2⟩
        · rw [Plan.fits_across _ p _ _ _ _ h3 hk] at hf
          rw [Plan.fits_across _ q _ _ _ _ (qo.trans h3) qk, qa]
          simp only [Bool.and_eq_true] at *
          exact ⟨⟨hf.1.1, f1 _ _ hf.1.2⟩, f2 _ _ hf.2⟩
      · have h1 : placeOf (p, b) = none := by unfold placeOf; rw [if_neg]; simp only; unfold Plan.cut at hc; omega
        have h2 : placeOf (q, b) = none := by unfold placeOf; rw [if_neg]; simp only; unfold Plan.cut at qc; omega
        have hs : q.split b = p.split b := by unfold Plan.split; rw [qo, qa]
        unfold Plan.places at *
        rw [Plan.parts_cut qc qk, Plan.parts_cut hc hk, List.filterMap_cons, List.filterMap_cons, h1, h2, List.filterMap_append, List.filterMap_append, hs, m1, m2]
    · rename_i hh
      have hh' : (x.hasP || y.hasP) = false := by simpa using hh
      refine ⟨Plan.zero_wf, by rw [Plan.zero_nodes]; exact p.nodes_pos, fun w h hf => Plan.fits_else k _ _ _ (by decide) (by decide) (by decide), fun b => ?_⟩
      rw [Plan.zero_places, Plan.noP_places p hw (by rw [Plan.hasP_cut hc hk, hh'])])

theorem Place.eq_c (a b : Place) : eqA [.int, .bool, .int, .int, .int, .int] a.cs b.cs = some (decide (a = b)) := by
  cases a with | mk p t b1 =>
  cases b with | mk p' t' b2 =>
  cases b1; cases b2
  simp only [Place.cs, eqA, Option.map_some, Place.mk.injEq, Box.mk.injEq, Bool.and_true]
  congr 1
  simp only [Bool.decide_and, Bool.and_assoc]
theorem Place.eq_self (a : Place) : eqA [.int, .bool, .int, .int, .int, .int] a.cs a.cs = some true := by rw [Place.eq_c]; simp
theorem DKa0 : type_of% @Place.eq_self := @Place.eq_self

theorem e_equalPlaces : Enters Try.prog 8 := enters_of Try.func8 (by kernel_rfl) (by kernel_rfl)
set_option maxHeartbeats 1000000 in
theorem equalPlaces_c (l : List Place) (hl : l.length < 2 ^ 40) : ACalls Try.prog 8 [.sl (l.map Place.cs), .sl (l.map Place.cs)] [] [] (fun r L => r = .val (.bool true) ∧ L = []) := by
  refine acalls_tm T_tt Try.func8 rfl e_equalPlaces 24 rfl (W8 _ _ .any .any .any .any .any .any (W8 .any .any .any .any .any .any .any .any (W8 .any .any .any .any .any .any .any .any [.any, .any]))) rfl (rv := [.tmp 4]) rfl (sx_sound (bl := []) T_tt _ _ _ ?_)
  simp (disch := omega) only [SX0, SX1, SX2, SX3, SX4, SX5, SX6, SX7, SX8, SU0, SY0, Nat.reduceAdd, Nat.reduceMul, Nat.reduceSub, Nat.reduceLeDiff, Nat.reduceEqDiff, Nat.reduceLT, Nat.reduceBEq, ↓reduceIte, Int.reduceLE, Int.reduceLT, Int.reduceToNat, Int.reduceNeg, reduceCtorEq, Int.reduceEq, SF0, SF1, SF2, DHb0, DHb1, DHa0, DCg0, DCe0, DCe1, DCe2, DDb0, DBc0, DBc1, DDe0, DKa0]
  with_reducible refine awp_loop_h 5 21 (fun (i : Nat) => [(5, .val (.int .i64 i))]) (fun i => []) (fun i => i ≤ l.length) (fun i => l.length - i) 0 (Nat.zero_le _) ?_ (fun i hi => sx_sound (bl := []) T_tt _ _ _ ?_)
  · simp (disch := omega) only [SX0, SX1, SX2, SX3, SX4, SX5, SX6, SX7, SX8, SU0, SY0, Nat.reduceAdd, Nat.reduceMul, Nat.reduceSub, Nat.reduceLeDiff, Nat.reduceEqDiff, Nat.reduceLT, Nat.reduceBEq, ↓reduceIte, Int.reduceLE, Int.reduceLT, Int.reduceToNat, Int.reduceNeg, reduceCtorEq, Int.reduceEq, SF0, SF1, SF2, DHb0, DHb1, DHa0, DCg0, DCe0, DCe1, DCe2, DDb0, DBc0, DBc1, DDe0, DKa0]
    (refine wk_le ?_ ?_ ?_; (focus (simp [W8, leTm, leAV, AV.under, underL]; done)); (focus (simp [leL, OB.under, underL, AV.under]; done)); (focus (simp; done)))
  simp (disch := omega) only [SX0, SX1, SX2, SX3, SX4, SX5, SX6, SX7, SX8, SU0, SY0, Nat.reduceAdd, Nat.reduceMul, Nat.reduceSub, Nat.reduceLeDiff, Nat.reduceEqDiff, Nat.reduceLT, Nat.reduceBEq, ↓reduceIte, Int.reduceLE, Int.reduceLT, Int.reduceToNat, Int.reduceNeg, reduceCtorEq, Int.reduceEq, SF0, SF1, SF2, DHb0, DHb1, DHa0, DCg0, DCe0, DCe1, DCe2, DDb0, DBc0, DBc1, DDe0, DKa0]
  refine br_dec (fun h1 => ?_) (fun h1 => ?_)
  · obtain ⟨q, hq⟩ := get_lt (l := l) (i := i) (by omega)
    simp (disch := omega) only [SX0, SX1, SX2, SX3, SX4, SX5, SX6, SX7, SX8, SU0, SY0, Nat.reduceAdd, Nat.reduceMul, Nat.reduceSub, Nat.reduceLeDiff, Nat.reduceEqDiff, Nat.reduceLT, Nat.reduceBEq, ↓reduceIte, Int.reduceLE, Int.reduceLT, Int.reduceToNat, Int.reduceNeg, reduceCtorEq, Int.reduceEq, SF0, SF1, SF2, DHb0, DHb1, DHa0, DCg0, DCe0, DCe1, DCe2, DDb0, DBc0, DBc1, DDe0, DKa0]
    refine awp_drawA T_tt mixed (by decide +kernel) (by kernel_rfl) (by kernel_rfl) ?_
    simp (disch := omega) only [SX0, SX1, SX2, SX3, SX4, SX5, SX6, SX7, SX8, SU0, SY0, Nat.reduceAdd, Nat.reduceMul, Nat.reduceSub, Nat.reduceLeDiff, Nat.reduceEqDiff, Nat.reduceLT, Nat.reduceBEq, ↓reduceIte, Int.reduceLE, Int.reduceLT, Int.reduceToNat, Int.reduceNeg, reduceCtorEq, Int.reduceEq, SF0, SF1, SF2, DHb0, DHb1, DHa0, DCg0, DCe0, DCe1, DCe2, DDb0, DBc0, DBc1, DDe0, DKa0, hq]
    refine ⟨i + 1, by omega, by omega, ?_⟩
    (refine wk_le ?_ ?_ ?_; (focus (simp [W8, leTm, leAV, AV.under, underL]; done)); (focus (simp [leL, OB.under, underL, AV.under]; done)); (focus (simp; done)))
  · simp (disch := omega) only [SX0, SX1, SX2, SX3, SX4, SX5, SX6, SX7, SX8, SU0, SY0, Nat.reduceAdd, Nat.reduceMul, Nat.reduceSub, Nat.reduceLeDiff, Nat.reduceEqDiff, Nat.reduceLT, Nat.reduceBEq, ↓reduceIte, Int.reduceLE, Int.reduceLT, Int.reduceToNat, Int.reduceNeg, reduceCtorEq, Int.reduceEq, SF0, SF1, SF2, DHb0, DHb1, DHa0, DCg0, DCe0, DCe1, DCe2, DDb0, DBc0, DBc1, DDe0, DKa0]
    exact fin_val ⟨rfl, rfl⟩

theorem e_hasPlace : Enters Try.prog 27 := enters_of Try.func27 (by kernel_rfl) (by kernel_rfl)
set_option maxHeartbeats 1000000 in
theorem hasPlace_c (l : List Place) (hl : l.length < 2 ^ 40) (q : Place) : ACalls Try.prog 27 [.sl (l.map Place.cs), .agg q.cs] [] [] (fun r L => r = .val (.bool (decide (q ∈ l))) ∧ L = []) := by
  refine acalls_tm T_tt Try.func27 rfl e_hasPlace 15 rfl (W8 _ _ .any .any .any .any .any .any (W8 .any .any .any .any .any .any .any .any [.any])) rfl (rv := [.tmp 4]) rfl (sx_sound (bl := []) T_tt _ _ _ ?_)
  simp (disch := omega) only [SX0, SX1, SX2, SX3, SX4, SX5, SX6, SX7, SX8, SU0, SY0, Nat.reduceAdd, Nat.reduceMul, Nat.reduceSub, Nat.reduceLeDiff, Nat.reduceEqDiff, Nat.reduceLT, Nat.reduceBEq, ↓reduceIte, Int.reduceLE, Int.reduceLT, Int.reduceToNat, Int.reduceNeg, reduceCtorEq, Int.reduceEq, SF0, SF1, SF2, DHb0, DHb1, DHa0, DCg0, DCe0, DCe1, DCe2, DDb0, DBc0, DBc1, DDe0, DKa0]
  with_reducible refine awp_loop_h 5 12 (fun (i : Nat) => [(7, .sl (l.map Place.cs)), (8, .val (.int .i64 l.length)), (9, .val (.int .i64 i))]) (fun i => [.cells q.cs]) (fun i => i ≤ l.length ∧ q ∉ l.take i) (fun i => l.length - i) 0 ⟨Nat.zero_le _, by simp⟩ ?_ (fun i hi => sx_sound (bl := []) T_tt _ _ _ ?_)
  · simp (disch := omega) only [SX0, SX1, SX2, SX3, SX4, SX5, SX6, SX7, SX8, SU0, SY0, Nat.reduceAdd, Nat.reduceMul, Nat.reduceSub, Nat.reduceLeDiff, Nat.reduceEqDiff, Nat.reduceLT, Nat.reduceBEq, ↓reduceIte, Int.reduceLE, Int.reduceLT, Int.reduceToNat, Int.reduceNeg, reduceCtorEq, Int.reduceEq, SF0, SF1, SF2, DHb0, DHb1, DHa0, DCg0, DCe0, DCe1, DCe2, DDb0, DBc0, DBc1, DDe0, DKa0]
    (refine wk_le ?_ ?_ ?_; (focus (simp [W8, leTm, leAV, AV.under, underL, Place.cs]; done)); (focus (simp [leL, OB.under, underL, AV.under, Place.cs]; done)); (focus (simp; done)))
  simp (disch := omega) only [SX0, SX1, SX2, SX3, SX4, SX5, SX6, SX7, SX8, SU0, SY0, Nat.reduceAdd, Nat.reduceMul, Nat.reduceSub, Nat.reduceLeDiff, Nat.reduceEqDiff, Nat.reduceLT, Nat.reduceBEq, ↓reduceIte, Int.reduceLE, Int.reduceLT, Int.reduceToNat, Int.reduceNeg, reduceCtorEq, Int.reduceEq, SF0, SF1, SF2, DHb0, DHb1, DHa0, DCg0, DCe0, DCe1, DCe2, DDb0, DBc0, DBc1, DDe0, DKa0]
  refine br_dec (fun h1 => ?_) (fun h1 => ?_)
  · obtain ⟨a, ha⟩ := get_lt (l := l) (i := i) (by omega)
    simp (disch := omega) only [SX0, SX1, SX2, SX3, SX4, SX5, SX6, SX7, SX8, SU0, SY0, Nat.reduceAdd, Nat.reduceMul, Nat.reduceSub, Nat.reduceLeDiff, Nat.reduceEqDiff, Nat.reduceLT, Nat.reduceBEq, ↓reduceIte, Int.reduceLE, Int.reduceLT, Int.reduceToNat, Int.reduceNeg, reduceCtorEq, Int.reduceEq, SF0, SF1, SF2, DHb0, DHb1, DHa0, DCg0, DCe0, DCe1, DCe2, DDb0, DBc0, DBc1, DDe0, DKa0, ha, Place.eq_c]
    refine br_dec (fun h2 => ?_) (fun h2 => ?_)
    · simp (disch := omega) only [SX0, SX1, SX2, SX3, SX4, SX5, SX6, SX7, SX8, SU0, SY0, Nat.reduceAdd, Nat.reduceMul, Nat.reduceSub, Nat.reduceLeDiff, Nat.reduceEqDiff, Nat.reduceLT, Nat.reduceBEq, ↓reduceIte, Int.reduceLE, Int.reduceLT, Int.reduceToNat, Int.reduceNeg, reduceCtorEq, Int.reduceEq, SF0, SF1, SF2, DHb0, DHb1, DHa0, DCg0, DCe0, DCe1, DCe2, DDb0, DBc0, DBc1, DDe0, DKa0]
      exact fin_val ⟨vT (h2 ▸ List.mem_of_getElem? ha), rfl⟩
    · simp (disch := omega) only [SX0, SX1, SX2, SX3, SX4, SX5, SX6, SX7, SX8, SU0, SY0, Nat.reduceAdd, Nat.reduceMul, Nat.reduceSub, Nat.reduceLeDiff, Nat.reduceEqDiff, Nat.reduceLT, Nat.reduceBEq, ↓reduceIte, Int.reduceLE, Int.reduceLT, Int.reduceToNat, Int.reduceNeg, reduceCtorEq, Int.reduceEq, SF0, SF1, SF2, DHb0, DHb1, DHa0, DCg0, DCe0, DCe1, DCe2, DDb0, DBc0, DBc1, DDe0, DKa0]
      refine ⟨i + 1, ⟨by omega, ?_⟩, by omega, ?_⟩
      · rw [List.take_add_one, ha]
        simp only [Option.toList, List.mem_append, List.mem_singleton, not_or]
        exact ⟨hi.2, fun e => h2 e.symm⟩
      · (refine wk_le ?_ ?_ ?_; (focus (simp [W8, leTm, leAV, AV.under, underL, Place.cs]; done)); (focus (simp [leL, OB.under, underL, AV.under, Place.cs]; done)); (focus (simp; done)))
  · simp (disch := omega) only [SX0, SX1, SX2, SX3, SX4, SX5, SX6, SX7, SX8, SU0, SY0, Nat.reduceAdd, Nat.reduceMul, Nat.reduceSub, Nat.reduceLeDiff, Nat.reduceEqDiff, Nat.reduceLT, Nat.reduceBEq, ↓reduceIte, Int.reduceLE, Int.reduceLT, Int.reduceToNat, Int.reduceNeg, reduceCtorEq, Int.reduceEq, SF0, SF1, SF2, DHb0, DHb1, DHa0, DCg0, DCe0, DCe1, DCe2, DDb0, DBc0, DBc1, DDe0, DKa0]
    have e : l.take i = l := List.take_of_length_le (by omega)
    rw [e] at hi
    exact fin_val ⟨vF hi.2, rfl⟩

theorem e_samePlaces : Enters Try.prog 12 := enters_of Try.func12 (by kernel_rfl) (by kernel_rfl)
set_option maxHeartbeats 1000000 in
theorem samePlaces_c (k : Work) (p q : Plan) (hk : k.Ps.length < 2 ^ 40) (hp : p.valid k) (hq : q.valid k) (he : q.places k.sheet = p.places k.sheet) : ACalls Try.prog 12 [.agg k.cs, .agg p.cs, .agg q.cs] [] [] (fun r L => r = .val (.bool true) ∧ L = []) := by
  have V1 := validPlanI_c k p hk
  have V2 := validPlanI_c k q hk
  rw [decide_eq_true hp] at V1
  rw [decide_eq_true hq] at V2
  have P1 := placesOfI_c k p hk
  have P2 := placesOfI_c k q hk
  rw [vparts_valid hp] at P1
  rw [vparts_valid hq, he] at P2
  have hpl := places_le hp
  generalize p.places k.sheet = l at *
  refine acalls_tm T_tt Try.func12 rfl e_samePlaces 40 rfl (W8 _ _ _ .any .any .any .any .any (W8 .any .any .any .any .any .any .any .any (W8 .any .any .any .any .any .any .any .any (W8 .any .any .any .any .any .any .any .any (W8 .any .any .any .any .any .any .any .any [.any, .any, .any]))))) rfl (rv := [.tmp 6]) rfl (sx_sound (bl := []) T_tt _ _ _ ?_)
  simp (disch := omega) only [SX0, SX1, SX2, SX3, SX4, SX5, SX6, SX7, SX8, SU0, SY0, Nat.reduceAdd, Nat.reduceMul, Nat.reduceSub, Nat.reduceLeDiff, Nat.reduceEqDiff, Nat.reduceLT, Nat.reduceBEq, ↓reduceIte, Int.reduceLE, Int.reduceLT, Int.reduceToNat, Int.reduceNeg, reduceCtorEq, Int.reduceEq, SF0, SF1, SF2, DHb0, DHb1, DHa0, DCg0, DCe0, DCe1, DCe2, DDb0, DBc0, DBc1, DDe0, DKa0]
  refine acall_one V1 (by simp [freeL, AV.free, Plan.free, Work.free]) rfl ?_
  simp (disch := omega) only [SX0, SX1, SX2, SX3, SX4, SX5, SX6, SX7, SX8, SU0, SY0, Nat.reduceAdd, Nat.reduceMul, Nat.reduceSub, Nat.reduceLeDiff, Nat.reduceEqDiff, Nat.reduceLT, Nat.reduceBEq, ↓reduceIte, Int.reduceLE, Int.reduceLT, Int.reduceToNat, Int.reduceNeg, reduceCtorEq, Int.reduceEq, SF0, SF1, SF2, DHb0, DHb1, DHa0, DCg0, DCe0, DCe1, DCe2, DDb0, DBc0, DBc1, DDe0, DKa0]
  refine acall_one V2 (by simp [freeL, AV.free, Plan.free, Work.free]) rfl ?_
  simp (disch := omega) only [SX0, SX1, SX2, SX3, SX4, SX5, SX6, SX7, SX8, SU0, SY0, Nat.reduceAdd, Nat.reduceMul, Nat.reduceSub, Nat.reduceLeDiff, Nat.reduceEqDiff, Nat.reduceLT, Nat.reduceBEq, ↓reduceIte, Int.reduceLE, Int.reduceLT, Int.reduceToNat, Int.reduceNeg, reduceCtorEq, Int.reduceEq, SF0, SF1, SF2, DHb0, DHb1, DHa0, DCg0, DCe0, DCe1, DCe2, DDb0, DBc0, DBc1, DDe0, DKa0]
  refine awp_drawA T_tt mixed (by decide +kernel) (by kernel_rfl) (by kernel_rfl) ?_
  simp (disch := omega) only [SX0, SX1, SX2, SX3, SX4, SX5, SX6, SX7, SX8, SU0, SY0, Nat.reduceAdd, Nat.reduceMul, Nat.reduceSub, Nat.reduceLeDiff, Nat.reduceEqDiff, Nat.reduceLT, Nat.reduceBEq, ↓reduceIte, Int.reduceLE, Int.reduceLT, Int.reduceToNat, Int.reduceNeg, reduceCtorEq, Int.reduceEq, SF0, SF1, SF2, DHb0, DHb1, DHa0, DCg0, DCe0, DCe1, DCe2, DDb0, DBc0, DBc1, DDe0, DKa0]
  refine qc_one P1 (by simp [freeL, AV.free, Plan.free, Work.free]) ?_
  simp (disch := omega) only [SX0, SX1, SX2, SX3, SX4, SX5, SX6, SX7, SX8, SU0, SY0, Nat.reduceAdd, Nat.reduceMul, Nat.reduceSub, Nat.reduceLeDiff, Nat.reduceEqDiff, Nat.reduceLT, Nat.reduceBEq, ↓reduceIte, Int.reduceLE, Int.reduceLT, Int.reduceToNat, Int.reduceNeg, reduceCtorEq, Int.reduceEq, SF0, SF1, SF2, DHb0, DHb1, DHa0, DCg0, DCe0, DCe1, DCe2, DDb0, DBc0, DBc1, DDe0, DKa0]
  refine qc_one P2 (by simp [freeL, AV.free, Plan.free, Work.free]) ?_
  simp (disch := omega) only [SX0, SX1, SX2, SX3, SX4, SX5, SX6, SX7, SX8, SU0, SY0, Nat.reduceAdd, Nat.reduceMul, Nat.reduceSub, Nat.reduceLeDiff, Nat.reduceEqDiff, Nat.reduceLT, Nat.reduceBEq, ↓reduceIte, Int.reduceLE, Int.reduceLT, Int.reduceToNat, Int.reduceNeg, reduceCtorEq, Int.reduceEq, SF0, SF1, SF2, DHb0, DHb1, DHa0, DCg0, DCe0, DCe1, DCe2, DDb0, DBc0, DBc1, DDe0, DKa0]
  with_reducible refine awp_loop_h 9 34 (fun (i : Nat) => [(32, .sl (l.map Place.cs)), (33, .val (.int .i64 l.length)), (34, .val (.int .i64 i))]) (fun i => [.cells k.cs, .cells p.cs, .cells q.cs]) (fun i => i ≤ l.length) (fun i => l.length - i) 0 (Nat.zero_le _) ?_ (fun i hi => sx_sound (bl := []) T_tt _ _ _ ?_)
  · simp (disch := omega) only [SX0, SX1, SX2, SX3, SX4, SX5, SX6, SX7, SX8, SU0, SY0, Nat.reduceAdd, Nat.reduceMul, Nat.reduceSub, Nat.reduceLeDiff, Nat.reduceEqDiff, Nat.reduceLT, Nat.reduceBEq, ↓reduceIte, Int.reduceLE, Int.reduceLT, Int.reduceToNat, Int.reduceNeg, reduceCtorEq, Int.reduceEq, SF0, SF1, SF2, DHb0, DHb1, DHa0, DCg0, DCe0, DCe1, DCe2, DDb0, DBc0, DBc1, DDe0, DKa0]
    (refine wk_le ?_ ?_ ?_; (focus (simp [W8, leTm, leAV, AV.under, underL, Work.under, Plan.under]; done)); (focus (simp [leL, OB.under, underL, AV.under, Work.under, Plan.under]; done)); (focus (simp; done)))
  simp (disch := omega) only [SX0, SX1, SX2, SX3, SX4, SX5, SX6, SX7, SX8, SU0, SY0, Nat.reduceAdd, Nat.reduceMul, Nat.reduceSub, Nat.reduceLeDiff, Nat.reduceEqDiff, Nat.reduceLT, Nat.reduceBEq, ↓reduceIte, Int.reduceLE, Int.reduceLT, Int.reduceToNat, Int.reduceNeg, reduceCtorEq, Int.reduceEq, SF0, SF1, SF2, DHb0, DHb1, DHa0, DCg0, DCe0, DCe1, DCe2, DDb0, DBc0, DBc1, DDe0, DKa0]
  refine br_dec (fun h1 => ?_) (fun h1 => ?_)
  · obtain ⟨a, ha⟩ := get_lt (l := l) (i := i) (by omega)
    have H := hasPlace_c l (by omega) a
    rw [decide_eq_true (List.mem_of_getElem? ha)] at H
    simp (disch := omega) only [SX0, SX1, SX2, SX3, SX4, SX5, SX6, SX7, SX8, SU0, SY0, Nat.reduceAdd, Nat.reduceMul, Nat.reduceSub, Nat.reduceLeDiff, Nat.reduceEqDiff, Nat.reduceLT, Nat.reduceBEq, ↓reduceIte, Int.reduceLE, Int.reduceLT, Int.reduceToNat, Int.reduceNeg, reduceCtorEq, Int.reduceEq, SF0, SF1, SF2, DHb0, DHb1, DHa0, DCg0, DCe0, DCe1, DCe2, DDb0, DBc0, DBc1, DDe0, DKa0, ha]
    refine acall_one H (by simp [freeL, AV.free, Place.free]) rfl ?_
    simp (disch := omega) only [SX0, SX1, SX2, SX3, SX4, SX5, SX6, SX7, SX8, SU0, SY0, Nat.reduceAdd, Nat.reduceMul, Nat.reduceSub, Nat.reduceLeDiff, Nat.reduceEqDiff, Nat.reduceLT, Nat.reduceBEq, ↓reduceIte, Int.reduceLE, Int.reduceLT, Int.reduceToNat, Int.reduceNeg, reduceCtorEq, Int.reduceEq, SF0, SF1, SF2, DHb0, DHb1, DHa0, DCg0, DCe0, DCe1, DCe2, DDb0, DBc0, DBc1, DDe0, DKa0]
    refine ⟨i + 1, by omega, by omega, ?_⟩
    (refine wk_le ?_ ?_ ?_; (focus (simp [W8, leTm, leAV, AV.under, underL, Work.under, Plan.under]; done)); (focus (simp [leL, OB.under, underL, AV.under, Work.under, Plan.under]; done)); (focus (simp; done)))
  · simp (disch := omega) only [SX0, SX1, SX2, SX3, SX4, SX5, SX6, SX7, SX8, SU0, SY0, Nat.reduceAdd, Nat.reduceMul, Nat.reduceSub, Nat.reduceLeDiff, Nat.reduceEqDiff, Nat.reduceLT, Nat.reduceBEq, ↓reduceIte, Int.reduceLE, Int.reduceLT, Int.reduceToNat, Int.reduceNeg, reduceCtorEq, Int.reduceEq, SF0, SF1, SF2, DHb0, DHb1, DHa0, DCg0, DCe0, DCe1, DCe2, DDb0, DBc0, DBc1, DDe0, DKa0]
    exact fin_val ⟨rfl, rfl⟩

theorem e_placesOfSS : Enters Try.prog 9 := enters_of Try.func9 (by kernel_rfl) (by kernel_rfl)
theorem placesOfSS_c (k : Work) (p : Plan) (hk : k.Ps.length < 2 ^ 40) : ACalls Try.prog 9 [.agg k.cs, .agg p.cs] [] [] (fun r L => r = .sl (((p.vparts k).filterMap placeOf).map Place.cs) ∧ L = []) := by
  refine acalls_tm T_tt Try.func9 rfl e_placesOfSS 10 rfl (W8 _ _ .any .any .any .any .any .any [.any, .any, .any, .any]) rfl (rv := [.tmp 4]) rfl (sx_sound (bl := []) T_tt _ _ _ ?_)
  simp (disch := omega) only [SX0, SX1, SX2, SX3, SX4, SX5, SX6, SX7, SX8, SU0, SY0, Nat.reduceAdd, Nat.reduceMul, Nat.reduceSub, Nat.reduceLeDiff, Nat.reduceEqDiff, Nat.reduceLT, Nat.reduceBEq, ↓reduceIte, Int.reduceLE, Int.reduceLT, Int.reduceToNat, Int.reduceNeg, reduceCtorEq, Int.reduceEq, SF0, SF1, SF2, DHb0, DHb1, DHa0, DCg0, DCe0, DCe1, DCe2, DDb0, DBc0, DBc1, DDe0, DKa0]
  refine acall_one (validPlanS_c k p hk) (by simp [freeL, AV.free, Plan.free, Work.free]) rfl ?_
  simp (disch := omega) only [SX0, SX1, SX2, SX3, SX4, SX5, SX6, SX7, SX8, SU0, SY0, Nat.reduceAdd, Nat.reduceMul, Nat.reduceSub, Nat.reduceLeDiff, Nat.reduceEqDiff, Nat.reduceLT, Nat.reduceBEq, ↓reduceIte, Int.reduceLE, Int.reduceLT, Int.reduceToNat, Int.reduceNeg, reduceCtorEq, Int.reduceEq, SF0, SF1, SF2, DHb0, DHb1, DHa0, DCg0, DCe0, DCe1, DCe2, DDb0, DBc0, DBc1, DDe0, DKa0]
  refine br_ndec (fun hv => ?_) (fun hv => ?_)
  · simp (disch := omega) only [SX0, SX1, SX2, SX3, SX4, SX5, SX6, SX7, SX8, SU0, SY0, Nat.reduceAdd, Nat.reduceMul, Nat.reduceSub, Nat.reduceLeDiff, Nat.reduceEqDiff, Nat.reduceLT, Nat.reduceBEq, ↓reduceIte, Int.reduceLE, Int.reduceLT, Int.reduceToNat, Int.reduceNeg, reduceCtorEq, Int.reduceEq, SF0, SF1, SF2, DHb0, DHb1, DHa0, DCg0, DCe0, DCe1, DCe2, DDb0, DBc0, DBc1, DDe0, DKa0]
    exact fin_nilrow ⟨by unfold Plan.vparts; rw [if_neg hv]; rfl, rfl⟩
  · simp (disch := omega) only [SX0, SX1, SX2, SX3, SX4, SX5, SX6, SX7, SX8, SU0, SY0, Nat.reduceAdd, Nat.reduceMul, Nat.reduceSub, Nat.reduceLeDiff, Nat.reduceEqDiff, Nat.reduceLT, Nat.reduceBEq, ↓reduceIte, Int.reduceLE, Int.reduceLT, Int.reduceToNat, Int.reduceNeg, reduceCtorEq, Int.reduceEq, SF0, SF1, SF2, DHb0, DHb1, DHa0, DCg0, DCe0, DCe1, DCe2, DDb0, DBc0, DBc1, DDe0, DKa0]
    refine acall_one (placesOfS_c k p hv) (by simp [freeL, AV.free, Plan.free, Work.free]) rfl ?_
    simp (disch := omega) only [SX0, SX1, SX2, SX3, SX4, SX5, SX6, SX7, SX8, SU0, SY0, Nat.reduceAdd, Nat.reduceMul, Nat.reduceSub, Nat.reduceLeDiff, Nat.reduceEqDiff, Nat.reduceLT, Nat.reduceBEq, ↓reduceIte, Int.reduceLE, Int.reduceLT, Int.reduceToNat, Int.reduceNeg, reduceCtorEq, Int.reduceEq, SF0, SF1, SF2, DHb0, DHb1, DHa0, DCg0, DCe0, DCe1, DCe2, DDb0, DBc0, DBc1, DDe0, DKa0]
    exact fin_free rfl ⟨by rw [vparts_valid hv], rfl⟩

theorem e_drawPlacesOf : Enters Try.prog 6 := enters_of Try.func6 (by kernel_rfl) (by kernel_rfl)
theorem drawPlacesOf_c (xs : List Int) (hx : ∀ x ∈ xs, 0 ≤ x ∧ x < 256) : ACalls Try.prog 6 [.sl (bys xs)] [] [] (fun r L => L = [] ∧ ∃ (k : Work) (q : Plan), r = .tup [.agg k.cs, .agg q.cs] ∧ k.Small ∧ q.Small) := by
  have hx' := take_byte hx
  have hl' : (xs.take 2000).length ≤ 2000 := by rw [List.length_take]; omega
  refine acalls_tm T_tt Try.func6 rfl e_drawPlacesOf 8 rfl (W8 _ .any .any .any .any .any .any .any [.any]) rfl (rv := [.cell 2 25, .cell 3 28]) rfl (sx_sound (bl := []) T_tt _ _ _ ?_)
  simp (disch := omega) only [SX0, SX1, SX2, SX3, SX4, SX5, SX6, SX7, SX8, SU0, SY0, Nat.reduceAdd, Nat.reduceMul, Nat.reduceSub, Nat.reduceLeDiff, Nat.reduceEqDiff, Nat.reduceLT, Nat.reduceBEq, ↓reduceIte, Int.reduceLE, Int.reduceLT, Int.reduceToNat, Int.reduceNeg, reduceCtorEq, Int.reduceEq, SF0, SF1, SF2, DHb0, DHb1, DHa0, DCg0, DCe0, DCe1, DCe2, DDb0, DBc0, DBc1, DDe0, DKa0]
  refine acall_own (newReader_c xs) [] [] (by simp only [SX0, SX1, SX2, SX3, SX4, SX5, SX6, SX7, SX8, SU0, SY0, Nat.reduceAdd, Nat.reduceMul, Nat.reduceSub, Nat.reduceLeDiff, Nat.reduceEqDiff, Nat.reduceLT, Nat.reduceBEq, ↓reduceIte, Int.reduceLE, Int.reduceLT, Int.reduceToNat, Int.reduceNeg, reduceCtorEq, Int.reduceEq, SF0, SF1, SF2, DHb0, DHb1, DHa0, DCg0, DCe0, DCe1, DCe2, DDb0, DBc0, DBc1, DDe0, DKa0, SX0]) (by decide) (by decide) (by rfl) (by simp only [SX0, SX1, SX2, SX3, SX4, SX5, SX6, SX7, SX8, SU0, SY0, Nat.reduceAdd, Nat.reduceMul, Nat.reduceSub, Nat.reduceLeDiff, Nat.reduceEqDiff, Nat.reduceLT, Nat.reduceBEq, ↓reduceIte, Int.reduceLE, Int.reduceLT, Int.reduceToNat, Int.reduceNeg, reduceCtorEq, Int.reduceEq, SF0, SF1, SF2, DHb0, DHb1, DHa0, DCg0, DCe0, DCe1, DCe2, DDb0, DBc0, DBc1, DDe0, DKa0, SX0]) ?_
  rintro _ _ ⟨rfl, rfl⟩
  simp (disch := omega) only [SX0, SX1, SX2, SX3, SX4, SX5, SX6, SX7, SX8, SU0, SY0, Nat.reduceAdd, Nat.reduceMul, Nat.reduceSub, Nat.reduceLeDiff, Nat.reduceEqDiff, Nat.reduceLT, Nat.reduceBEq, ↓reduceIte, Int.reduceLE, Int.reduceLT, Int.reduceToNat, Int.reduceNeg, reduceCtorEq, Int.reduceEq, SF0, SF1, SF2, DHb0, DHb1, DHa0, DCg0, DCe0, DCe1, DCe2, DDb0, DBc0, DBc1, DDe0, DKa0]
  refine acall_own (anyPlan_c _ 0 hx' hl' (by omega)) [2] [] (by simp only [SX0, SX1, SX2, SX3, SX4, SX5, SX6, SX7, SX8, SU0, SY0, Nat.reduceAdd, Nat.reduceMul, Nat.reduceSub, Nat.reduceLeDiff, Nat.reduceEqDiff, Nat.reduceLT, Nat.reduceBEq, ↓reduceIte, Int.reduceLE, Int.reduceLT, Int.reduceToNat, Int.reduceNeg, reduceCtorEq, Int.reduceEq, SF0, SF1, SF2, DHb0, DHb1, DHa0, DCg0, DCe0, DCe1, DCe2, DDb0, DBc0, DBc1, DDe0, DKa0, SX0]) (by decide) (by decide) (by rfl) (by simp only [SX0, SX1, SX2, SX3, SX4, SX5, SX6, SX7, SX8, SU0, SY0, Nat.reduceAdd, Nat.reduceMul, Nat.reduceSub, Nat.reduceLeDiff, Nat.reduceEqDiff, Nat.reduceLT, Nat.reduceBEq, ↓reduceIte, Int.reduceLE, Int.reduceLT, Int.reduceToNat, Int.reduceNeg, reduceCtorEq, Int.reduceEq, SF0, SF1, SF2, DHb0, DHb1, DHa0, DCg0, DCe0, DCe1, DCe2, DDb0, DBc0, DBc1, DDe0, DKa0, SX0]) ?_
  rintro _ _ ⟨k, q, p1, rfl, rfl, hk, hq, hp1, hkw⟩
  simp (disch := omega) only [SX0, SX1, SX2, SX3, SX4, SX5, SX6, SX7, SX8, SU0, SY0, Nat.reduceAdd, Nat.reduceMul, Nat.reduceSub, Nat.reduceLeDiff, Nat.reduceEqDiff, Nat.reduceLT, Nat.reduceBEq, ↓reduceIte, Int.reduceLE, Int.reduceLT, Int.reduceToNat, Int.reduceNeg, reduceCtorEq, Int.reduceEq, SF0, SF1, SF2, DHb0, DHb1, DHa0, DCg0, DCe0, DCe1, DCe2, DDb0, DBc0, DBc1, DDe0, DKa0]
  exact fin_free (by simp [AV.free, freeL, Work.free, Plan.free]) ⟨rfl, k, q, rfl, hk, hq⟩

end Go.Pc
