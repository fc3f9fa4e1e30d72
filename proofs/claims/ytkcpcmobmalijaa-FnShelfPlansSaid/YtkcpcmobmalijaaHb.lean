/- Places and waste of a plan. -/
import Derived.Test.YtkcpcmobmalijaaHa
set_option linter.unusedSimpArgs false
set_option linter.unusedVariables false
namespace Go.Pc
open Go Go.Proofs

structure Place where
  pa : Int
  tu : Bool
  box : Box
  deriving DecidableEq

def Place.cs (q : Place) : List AV := [.val (.int .i64 q.pa), .val (.bool q.tu), .val (.int .i64 q.box.X), .val (.int .i64 q.box.Y), .val (.int .i64 q.box.W), .val (.int .i64 q.box.H)]
theorem Place.len (b : Place) : b.cs.length = 6 := rfl
theorem Place.take (b : Place) : b.cs.take 6 = b.cs := rfl
theorem Place.g0 (b : Place) : b.cs[0]? = some (.val (.int .i64 b.pa)) := rfl
theorem Place.g1 (b : Place) : b.cs[1]? = some (.val (.bool b.tu)) := rfl
theorem Place.one (b : Place) : b.cs.all AV.one = true := rfl
theorem Place.pure (b : Place) : b.cs.all AV.pure = true := rfl
theorem Place.free (b : Place) : freeL b.cs = true := rfl
theorem Place.filtd (f : Nat → Bool) (p : Place) : filtL f p.cs = p.cs := (free_filt_aux f).2 _ p.free
theorem Place.rend (f : Nat → Nat) (p : Place) : renL f p.cs = p.cs := freeL_rend f p.free
theorem DHb0 : type_of% @Place.len ∧ type_of% @Place.take ∧ type_of% @Place.g0 ∧ type_of% @Place.g1 ∧ type_of% @Place.one ∧ type_of% @Place.pure ∧ type_of% @Place.filtd ∧ type_of% @Place.rend := ⟨@Place.len, @Place.take, @Place.g0, @Place.g1, @Place.one, @Place.pure, @Place.filtd, @Place.rend⟩

/-- The pane of a part, if it is one. -/
def placeOf (q : Plan × Box) : Option Place := if q.1.op = 1 then some ⟨q.1.pa, q.1.tu, q.2⟩ else none
def wasteOf (q : Plan × Box) : Option Box := if q.1.op = 0 then some q.2 else none
def Plan.places (p : Plan) (b : Box) : List Place := (p.parts b).filterMap placeOf
def Plan.wastes (p : Plan) (b : Box) : List Box := (p.parts b).filterMap wasteOf

theorem filterMap_take {α β : Type} {f : α → Option β} {l : List α} {i : Nat} {x : α} (h : l[i]? = some x) : (l.take (i + 1)).filterMap f = (l.take i).filterMap f ++ (match f x with | some y => [y] | none => []) := by
  rw [List.take_add_one, h, List.filterMap_append]
  congr 1
  simp only [Option.toList, List.filterMap_cons, List.filterMap_nil]
  cases f x <;> rfl

theorem freeL_app : ∀ (a b : List AV), freeL (a ++ b) = (freeL a && freeL b)
  | [], b => by simp [freeL]
  | x :: a, b => by simp [freeL, freeL_app a b, Bool.and_assoc]

theorem placeOf_cells (q : Plan × Box) : (partRow q)[0]? = some (.val (.int .i64 q.1.op)) ∧ (partRow q)[2]? = some (.val (.int .i64 q.1.pa)) ∧ (partRow q)[3]? = some (.val (.bool q.1.tu)) := by
  simp [partRow, Plan.cs_eq]
theorem partRow_g0 (q : Plan × Box) : (partRow q)[0]? = some (.val (.int .i64 q.1.op)) := (placeOf_cells q).1
theorem partRow_g2 (q : Plan × Box) : (partRow q)[2]? = some (.val (.int .i64 q.1.pa)) := (placeOf_cells q).2.1
theorem partRow_g3 (q : Plan × Box) : (partRow q)[3]? = some (.val (.bool q.1.tu)) := (placeOf_cells q).2.2
theorem partRow_free (q : Plan × Box) : freeL (partRow q) = true := by rw [partRow, freeL_app, Plan.free, Box.free]; rfl
theorem partRow_filtd (f : Nat → Bool) (q : Plan × Box) : filtL f (partRow q) = partRow q := (free_filt_aux f).2 _ (partRow_free q)
theorem DHb1 : type_of% @partRow_g0 ∧ type_of% @partRow_g2 ∧ type_of% @partRow_g3 ∧ type_of% @partRow_filtd ∧ type_of% @partRow_drop := ⟨@partRow_g0, @partRow_g2, @partRow_g3, @partRow_filtd, @partRow_drop⟩

/-- The parts, if the plan is valid. -/
def Plan.vparts (p : Plan) (k : Work) : List (Plan × Box) := if p.valid k then p.parts k.sheet else []
theorem vparts_len (p : Plan) (k : Work) : (p.vparts k).length ≤ 255 := by
  unfold Plan.vparts
  split
  · rename_i h; rw [Plan.parts_len p h.2.1.1]; exact h.2.1.2
  · simp

theorem e_placesOfI : Enters Try.prog 71 := enters_of Try.func71 (by kernel_rfl) (by kernel_rfl)
set_option maxHeartbeats 1000000 in
theorem placesOfI_o (k : Work) (p : Plan) (hk : k.Ps.length < 2 ^ 40) : ACalls Try.prog 71 [.agg k.cs, .agg p.cs] [] [] (fun r L => r = .os 0 6 0 ((p.vparts k).filterMap placeOf).length ∧ L = [.vec 6 (((p.vparts k).filterMap placeOf).map Place.cs)]) := by
  refine acalls_tm T_tt Try.func71 rfl e_placesOfI 32 rfl (W8 _ _ .any .any .any .any .any .any (W8 .any .any .any .any .any .any .any .any (W8 .any .any .any .any .any .any .any .any (W8 .any .any .any .any .any .any .any .any [.any, .any])))) rfl (rv := [.tmp 4]) rfl (sx_sound (bl := []) T_tt _ _ _ ?_)
  simp (disch := omega) only [SX0, SX1, SX2, SX3, SX4, SX5, SX6, SX7, SX8, SU0, SY0, SY1, Nat.reduceAdd, Nat.reduceMul, Nat.reduceSub, Nat.reduceLeDiff, Nat.reduceEqDiff, Nat.reduceLT, Nat.reduceBEq, ↓reduceIte, Int.reduceLE, Int.reduceLT, Int.reduceToNat, Int.reduceNeg, reduceCtorEq, Int.reduceEq, SF0, SF1, SF2, DHa0, DCg0, DCe0, DCe1, DCe2, DDb0, DBc0, DBc1, DHb0, DHb1]
  refine acall_one (partsOf_c k p hk) (by simp [freeL, AV.free, Plan.free, Work.free]) rfl ?_
  have hl := vparts_len p k
  unfold Plan.vparts at *
  generalize (if p.valid k then p.parts k.sheet else []) = l at *
  simp (disch := omega) only [SX0, SX1, SX2, SX3, SX4, SX5, SX6, SX7, SX8, SU0, SY0, SY1, Nat.reduceAdd, Nat.reduceMul, Nat.reduceSub, Nat.reduceLeDiff, Nat.reduceEqDiff, Nat.reduceLT, Nat.reduceBEq, ↓reduceIte, Int.reduceLE, Int.reduceLT, Int.reduceToNat, Int.reduceNeg, reduceCtorEq, Int.reduceEq, SF0, SF1, SF2, DHa0, DCg0, DCe0, DCe1, DCe2, DDb0, DBc0, DBc1, DHb0, DHb1]
  refine awp_wk (wk_nil 5 6 (by decide) rfl) ?_
  simp (disch := omega) only [SX0, SX1, SX2, SX3, SX4, SX5, SX6, SX7, SX8, SU0, SY0, SY1, Nat.reduceAdd, Nat.reduceMul, Nat.reduceSub, Nat.reduceLeDiff, Nat.reduceEqDiff, Nat.reduceLT, Nat.reduceBEq, ↓reduceIte, Int.reduceLE, Int.reduceLT, Int.reduceToNat, Int.reduceNeg, reduceCtorEq, Int.reduceEq, SF0, SF1, SF2, DHa0, DCg0, DCe0, DCe1, DCe2, DDb0, DBc0, DBc1, DHb0, DHb1]
  with_reducible refine awp_loop_h 5 28 (fun (i : Nat) => [(5, .os 2 6 0 ((l.take i).filterMap placeOf).length), (10, .sl (l.map partRow)), (11, .val (.int .i64 l.length)), (12, .val (.int .i64 i))]) (fun i => [.cells k.cs, .cells p.cs, .vec 6 (((l.take i).filterMap placeOf).map Place.cs)]) (fun i => i ≤ l.length) (fun i => l.length - i) 0 (Nat.zero_le _) ?_ (fun i hi => sx_sound (bl := []) T_tt _ _ _ ?_)
  · simp (disch := omega) only [SX0, SX1, SX2, SX3, SX4, SX5, SX6, SX7, SX8, SU0, SY0, SY1, Nat.reduceAdd, Nat.reduceMul, Nat.reduceSub, Nat.reduceLeDiff, Nat.reduceEqDiff, Nat.reduceLT, Nat.reduceBEq, ↓reduceIte, Int.reduceLE, Int.reduceLT, Int.reduceToNat, Int.reduceNeg, reduceCtorEq, Int.reduceEq, SF0, SF1, SF2, DHa0, DCg0, DCe0, DCe1, DCe2, DDb0, DBc0, DBc1, DHb0, DHb1]
    (refine wk_le ?_ ?_ ?_; (focus (simp [W8, leTm, leAV, AV.under, underL, Work.under, Plan.under]; done)); (focus (simp [leL, OB.under, underL, AV.under, Work.under, Plan.under]; done)); (focus (simp; done)))
  simp (disch := omega) only [SX0, SX1, SX2, SX3, SX4, SX5, SX6, SX7, SX8, SU0, SY0, SY1, Nat.reduceAdd, Nat.reduceMul, Nat.reduceSub, Nat.reduceLeDiff, Nat.reduceEqDiff, Nat.reduceLT, Nat.reduceBEq, ↓reduceIte, Int.reduceLE, Int.reduceLT, Int.reduceToNat, Int.reduceNeg, reduceCtorEq, Int.reduceEq, SF0, SF1, SF2, DHa0, DCg0, DCe0, DCe1, DCe2, DDb0, DBc0, DBc1, DHb0, DHb1]
  refine br_dec (fun h1 => ?_) (fun h1 => ?_)
  · obtain ⟨q, hq⟩ := get_lt (l := l) (i := i) (by omega)
    simp (disch := omega) only [SX0, SX1, SX2, SX3, SX4, SX5, SX6, SX7, SX8, SU0, SY0, SY1, Nat.reduceAdd, Nat.reduceMul, Nat.reduceSub, Nat.reduceLeDiff, Nat.reduceEqDiff, Nat.reduceLT, Nat.reduceBEq, ↓reduceIte, Int.reduceLE, Int.reduceLT, Int.reduceToNat, Int.reduceNeg, reduceCtorEq, Int.reduceEq, SF0, SF1, SF2, DHa0, DCg0, DCe0, DCe1, DCe2, DDb0, DBc0, DBc1, DHb0, DHb1, hq]
    have hlt : ((l.take i).filterMap placeOf).length ≤ i := Nat.le_trans (List.length_filterMap_le _ _) (by rw [List.length_take]; omega)
    refine br_dec (fun h2 => ?_) (fun h2 => ?_)
    · have e : (l.take (i + 1)).filterMap placeOf = (l.take i).filterMap placeOf ++ [⟨q.1.pa, q.1.tu, q.2⟩] := by rw [filterMap_take hq]; simp [placeOf, h2]
      simp (disch := omega) only [SX0, SX1, SX2, SX3, SX4, SX5, SX6, SX7, SX8, SU0, SY0, SY1, Nat.reduceAdd, Nat.reduceMul, Nat.reduceSub, Nat.reduceLeDiff, Nat.reduceEqDiff, Nat.reduceLT, Nat.reduceBEq, ↓reduceIte, Int.reduceLE, Int.reduceLT, Int.reduceToNat, Int.reduceNeg, reduceCtorEq, Int.reduceEq, SF0, SF1, SF2, DHa0, DCg0, DCe0, DCe1, DCe2, DDb0, DBc0, DBc1, DHb0, DHb1]
      refine req (by omega) ?_
      simp (disch := omega) only [SX0, SX1, SX2, SX3, SX4, SX5, SX6, SX7, SX8, SU0, SY0, SY1, Nat.reduceAdd, Nat.reduceMul, Nat.reduceSub, Nat.reduceLeDiff, Nat.reduceEqDiff, Nat.reduceLT, Nat.reduceBEq, ↓reduceIte, Int.reduceLE, Int.reduceLT, Int.reduceToNat, Int.reduceNeg, reduceCtorEq, Int.reduceEq, SF0, SF1, SF2, DHa0, DCg0, DCe0, DCe1, DCe2, DDb0, DBc0, DBc1, DHb0, DHb1]
      refine ⟨i + 1, by omega, by omega, ?_⟩
      (refine wk_le ?_ ?_ ?_; (focus (simp [W8, leTm, leAV, AV.under, underL, Work.under, Plan.under, e, Place.cs, Box.cs]; done)); (focus (simp [leL, OB.under, underL, AV.under, Work.under, Plan.under, e, Place.cs, Box.cs]; done)); (focus (simp; done)))
    · have e : (l.take (i + 1)).filterMap placeOf = (l.take i).filterMap placeOf := by rw [filterMap_take hq]; simp [placeOf, h2]
      simp (disch := omega) only [SX0, SX1, SX2, SX3, SX4, SX5, SX6, SX7, SX8, SU0, SY0, SY1, Nat.reduceAdd, Nat.reduceMul, Nat.reduceSub, Nat.reduceLeDiff, Nat.reduceEqDiff, Nat.reduceLT, Nat.reduceBEq, ↓reduceIte, Int.reduceLE, Int.reduceLT, Int.reduceToNat, Int.reduceNeg, reduceCtorEq, Int.reduceEq, SF0, SF1, SF2, DHa0, DCg0, DCe0, DCe1, DCe2, DDb0, DBc0, DBc1, DHb0, DHb1]
      refine ⟨i + 1, by omega, by omega, ?_⟩
      (refine wk_le ?_ ?_ ?_; (focus (simp [W8, leTm, leAV, AV.under, underL, Work.under, Plan.under, e]; done)); (focus (simp [leL, OB.under, underL, AV.under, Work.under, Plan.under, e]; done)); (focus (simp; done)))
  · rw [List.take_of_length_le (by omega)]
    simp (disch := omega) only [SX0, SX1, SX2, SX3, SX4, SX5, SX6, SX7, SX8, SU0, SY0, SY1, Nat.reduceAdd, Nat.reduceMul, Nat.reduceSub, Nat.reduceLeDiff, Nat.reduceEqDiff, Nat.reduceLT, Nat.reduceBEq, ↓reduceIte, Int.reduceLE, Int.reduceLT, Int.reduceToNat, Int.reduceNeg, reduceCtorEq, Int.reduceEq, SF0, SF1, SF2, DHa0, DCg0, DCe0, DCe1, DCe2, DDb0, DBc0, DBc1, DHb0, DHb1]
    exact fin_own rfl ⟨rfl, rfl⟩
theorem placesOfI_c (k : Work) (p : Plan) (hk : k.Ps.length < 2 ^ 40) : ACalls Try.prog 71 [.agg k.cs, .agg p.cs] [] [] (fun r L => r = .sl (((p.vparts k).filterMap placeOf).map Place.cs) ∧ L = []) := (placesOfI_o k p hk).frozen (by simp)

/-- A leaf of a plan, as the reference tells it. -/
def leafOf (q : Plan × Box) : Option Place := if q.1.cut then none else if q.1.op = 1 then some ⟨q.1.pa, q.1.tu, q.2⟩ else some ⟨-1, false, q.2⟩

theorem placeRows {u : List Place} : ∀ c ∈ u.map Place.cs, c.length = 6 ∧ c.all AV.one = true ∧ c.all AV.pure = true := fun c hc => by
  obtain ⟨q, _, rfl⟩ := List.mem_map.1 hc
  exact ⟨rfl, rfl, rfl⟩

/-- The panes of a valid plan are those of its work. -/
theorem Plan.places_pa (k : Work) : ∀ (p : Plan), p.wf = true → ∀ b : Box, p.fits k b.W b.H = true → ∀ q ∈ p.places b, (0 ≤ q.pa ∧ q.pa < k.Ps.length) :=
  Plan.wf_ind (fun p hw hc b hf q hq => by
    unfold Plan.places at hq
    rw [Plan.parts_leaf hc] at hq
    by_cases h1 : p.op = 1
    · simp only [List.filterMap_cons, placeOf, h1, if_true, List.filterMap_nil, List.mem_singleton] at hq
      subst hq
      rw [Plan.fits_pane k p _ _ h1] at hf
      refine Classical.byContradiction fun hn => ?_
      rw [fills_out k _ _ _ _ (by simp only at hn; omega)] at hf
      cases hf
    · simp [placeOf, h1] at hq) (fun p x y hw hc hk hx hy ix iy b hf q hq => by
    obtain ⟨f1, f2, _⟩ := Plan.fits_cut hc hk hf
    unfold Plan.places at hq
    have h1 : placeOf (p, b) = none := by
      unfold placeOf
      rw [if_neg]
      simp only
      unfold Plan.cut at hc
      omega
    rw [Plan.parts_cut hc hk, List.filterMap_cons, h1, List.filterMap_append] at hq
    rcases List.mem_append.1 hq with hq | hq
    · exact ix _ f1 q hq
    · exact iy _ f2 q hq)

/-- The leaves that are panes. -/
theorem Plan.leaf_places (k : Work) : ∀ (p : Plan), p.wf = true → ∀ b : Box, p.fits k b.W b.H = true → ((p.parts b).filterMap leafOf).filter (fun q => decide (0 ≤ q.pa)) = p.places b :=
  Plan.wf_ind (fun p hw hc b hf => by
    have hp := Plan.places_pa k p hw b hf
    unfold Plan.places at *
    rw [Plan.parts_leaf hc] at *
    by_cases h1 : p.op = 1
    · have := hp ⟨p.pa, p.tu, b⟩ (by simp [placeOf, h1])
      have h0 : 0 ≤ p.pa := this.1
      simp [leafOf, placeOf, hc, h1, h0]
    · simp [leafOf, placeOf, hc, h1]) (fun p x y hw hc hk hx hy ix iy b hf => by
    obtain ⟨f1, f2, _⟩ := Plan.fits_cut hc hk hf
    have h1 : placeOf (p, b) = none := by
      unfold placeOf
      rw [if_neg]
      simp only
      unfold Plan.cut at hc
      omega
    have h2 : leafOf (p, b) = none := by simp [leafOf, hc]
    unfold Plan.places at *
    rw [Plan.parts_cut hc hk, List.filterMap_cons, List.filterMap_cons, h1, h2, List.filterMap_append, List.filterMap_append, List.filter_append, ix _ f1, iy _ f2])

theorem filter_take {α : Type} {f : α → Bool} {l : List α} {i : Nat} {x : α} (h : l[i]? = some x) : (l.take (i + 1)).filter f = (l.take i).filter f ++ (if f x = true then [x] else []) := by
  rw [List.take_add_one, h, List.filter_append]
  congr 1
  simp only [Option.toList, List.filter_cons, List.filter_nil]

end Go.Pc
