/- Plans that are found from places: the program's walk. -/
import Derived.Test.YtokghjmmdnhbeaaZe
import Derived.Test.YtokghjmmdnhbeaaMp
import Derived.Test.YtokghjmmdnhbeaaJa
import Derived.Test.YtokghjmmdnhbeaaWd
set_option linter.unusedSimpArgs false
set_option linter.unusedVariables false
namespace Go.Pc
open Go Go.Proofs

/-- A row is frozen before a call. -/
theorem acall_frz {P : Program} {fx : List Nat} {g : FuncId} {args : List AV} {r k : Nat} {es : List (List AV)} {s : AS} {K : AV → AS → Prop} (hL : s.L[r]? = some (.vec k es)) (hfx : r ∉ fx) (h : ACall P fx (.fn g []) (args.map (AV.frz r k es)) (s.frz r k es) K) : ACall P fx (.fn g []) args s K :=
  acall_wk (by simp) (by have := wk_frz (fx := fx) (s := { s with tm := s.tm ++ args }) hL hfx; simpa [AS.frz] using this) h
theorem Box.frzm (r k : Nat) (es : List (List AV)) (w : Box) : w.cs.map (AV.frz r k es) = w.cs := freeL_frzm r k es w.free
theorem Box.frzL (r k : Nat) (es : List (List AV)) (w : Box) : frzL r k es w.cs = w.cs := freeL_frz r k es w.free
theorem Plan.frzL (r k : Nat) (es : List (List AV)) (w : Plan) : frzL r k es w.cs = w.cs := freeL_frz r k es w.free

/-- What is told of planPlaces. -/
def PlanPC (n : Nat) : Prop := ∀ (l : List Place) (b : Box), l.length ≤ 255 → (∀ q ∈ l, q.box.inside b) → (l.map Place.box).Pairwise (fun a c => ¬ a.meets c) → b.ok → b.W + b.H ≤ n →
  ∃ r : Option Plan, PF l b r ∧ ACalls Try.prog 26 [.sl (l.map Place.cs), .agg b.cs] [] [] (fun x L => x = .tup [.agg (r.getD .zero).cs, .val (.bool r.isSome)] ∧ L = [])

theorem ok_near {b : Box} (h : b.ok) : b.near := by unfold Box.ok at h; unfold Box.near; omega

theorem e_cutPlacesI : Enters Try.prog 47 := enters_of Try.func47 (by kernel_rfl) (by kernel_rfl)
set_option maxRecDepth 8000 in
set_option maxHeartbeats 4000000 in
theorem cutPlacesI_none (l : List Place) (b : Box) (hl : l.length ≤ 255) (hi : ∀ q ∈ l, q.box.inside b) (hb : b.ok) (h2 : ∀ a, ¬ IsCut l b 2 a) (h3 : ∀ a, ¬ IsCut l b 3 a) : ACalls Try.prog 47 [.sl (l.map Place.cs), .agg b.cs] [] [] (fun x L => x = .tup [.agg Plan.zero.cs, .val (.bool false)] ∧ L = []) := by
  refine acalls_tm T_tt Try.func47 rfl e_cutPlacesI 71 rfl (W8 _ _ .any .any .any .any .any .any (W8 .any .any .any .any .any .any .any .any (W8 .any .any .any .any .any .any .any .any (W8 .any .any .any .any .any .any .any .any (W8 .any .any .any .any .any .any .any .any (W8 .any .any .any .any .any .any .any .any (W8 .any .any .any .any .any .any .any .any (W8 .any .any .any .any .any .any .any .any (W8 .any .any .any .any .any .any .any .any [.any]))))))))) rfl (rv := [.cell 4 28, .tmp 5]) rfl (sx_sound (bl := []) T_tt _ _ _ ?_)
  simp (disch := omega) only [SX0, SX1, SX2, SX3, SX4, SX5, SX6, SX7, SX8, SU0, SY0, Nat.reduceAdd, Nat.reduceMul, Nat.reduceSub, Nat.reduceLeDiff, Nat.reduceEqDiff, Nat.reduceLT, Nat.reduceBEq, ↓reduceIte, Int.reduceLE, Int.reduceLT, Int.reduceToNat, Int.reduceNeg, reduceCtorEq, Int.reduceEq, SF0, SF1, SF2, DZc0, DWb0, DWa0, DLa0, DCg0, DCe0, DCe1, DCe2, DDb0, DBc0, DBc1, DKa0, DHb0, DHb1, DHa0, DDe0, DWc0]
  refine acall_own (firstCutI_c l b (by omega) (fun q hq => ok_near (hi q hq).1) (ok_near hb)) [] [] (by simp only [SX0, SX1, SX2, SX3, SX4, SX5, SX6, SX7, SX8, SU0, SY0, Nat.reduceAdd, Nat.reduceMul, Nat.reduceSub, Nat.reduceLeDiff, Nat.reduceEqDiff, Nat.reduceLT, Nat.reduceBEq, ↓reduceIte, Int.reduceLE, Int.reduceLT, Int.reduceToNat, Int.reduceNeg, reduceCtorEq, Int.reduceEq, SF0, SF1, SF2, DZc0, DWb0, DWa0, DLa0, DCg0, DCe0, DCe1, DCe2, DDb0, DBc0, DBc1, DKa0, DHb0, DHb1, DHa0, DDe0, DWc0, SX0]) (by decide) (by decide) (by rfl) (by simp only [SX0, SX1, SX2, SX3, SX4, SX5, SX6, SX7, SX8, SU0, SY0, Nat.reduceAdd, Nat.reduceMul, Nat.reduceSub, Nat.reduceLeDiff, Nat.reduceEqDiff, Nat.reduceLT, Nat.reduceBEq, ↓reduceIte, Int.reduceLE, Int.reduceLT, Int.reduceToNat, Int.reduceNeg, reduceCtorEq, Int.reduceEq, SF0, SF1, SF2, DZc0, DWb0, DWa0, DLa0, DCg0, DCe0, DCe1, DCe2, DDb0, DBc0, DBc1, DKa0, DHb0, DHb1, DHa0, DDe0, DWc0, SX0]) ?_
  rintro _ _ ⟨⟨op, a, ok, rfl, k1, k2⟩, rfl⟩
  have hok : ok = false := by
    cases ok
    · rfl
    · exact ((k1 rfl).not_none h2 h3).elim
  subst hok
  simp (disch := omega) only [SX0, SX1, SX2, SX3, SX4, SX5, SX6, SX7, SX8, SU0, SY0, Nat.reduceAdd, Nat.reduceMul, Nat.reduceSub, Nat.reduceLeDiff, Nat.reduceEqDiff, Nat.reduceLT, Nat.reduceBEq, ↓reduceIte, Int.reduceLE, Int.reduceLT, Int.reduceToNat, Int.reduceNeg, reduceCtorEq, Int.reduceEq, SF0, SF1, SF2, DZc0, DWb0, DWa0, DLa0, DCg0, DCe0, DCe1, DCe2, DDb0, DBc0, DBc1, DKa0, DHb0, DHb1, DHa0, DDe0, DWc0]
  refine fin_nrm ?_
  simp only [AV.nrm, nrmL]
  exact fin_free rfl ⟨by rw [Plan.zero_cs], rfl⟩


set_option maxRecDepth 8000 in
set_option maxHeartbeats 4000000 in
theorem cutPlacesI_cut (n : Nat) (H : PlanPC n) (l : List Place) (b : Box) (hl : l.length ≤ 255) (hi : ∀ q ∈ l, q.box.inside b) (ha : (l.map Place.box).Pairwise (fun a c => ¬ a.meets c)) (hb : b.ok) (hn : b.W + b.H ≤ n + 1) (op a : Int) (hf : FirstCut l b op a) :
    ∃ r1 r2, PF (lows op a l) (b.lo op a) r1 ∧ PF (highs op a l) (b.hi op a) r2 ∧ ACalls Try.prog 47 [.sl (l.map Place.cs), .agg b.cs] [] [] (fun x L => x = .tup [.agg ((combP op (a - b.fr op) r1 r2).getD .zero).cs, .val (.bool (combP op (a - b.fr op) r1 r2).isSome)] ∧ L = []) := by
  obtain ⟨⟨c1, c2, _, c4⟩, _, c6⟩ := id hf
  have hop : op = 2 ∨ op = 3 := by omega
  obtain ⟨b1, b2, w1, w2⟩ := lo_ok hb c1 c2
  have ll : (lows op a l).length ≤ 255 := Nat.le_trans (List.length_filter_le _ _) hl
  have lh : (highs op a l).length ≤ 255 := Nat.le_trans (List.length_filter_le _ _) hl
  obtain ⟨r1, p1, A1⟩ := H (lows op a l) (b.lo op a) ll (fun q hq => (inside_lo (hi q (lows_sub hq)) c1 c2).2 (of_decide_eq_true (List.mem_filter.1 hq).2)) (ha.sublist (List.Sublist.map _ List.filter_sublist)) b1 (by omega)
  obtain ⟨r2, p2, A2⟩ := H (highs op a l) (b.hi op a) lh (fun q hq => inside_hi (hi q (highs_sub hq)) c1 c2 (c4 q (highs_sub hq)) (by have := (List.mem_filter.1 hq).2; simpa using this)) (ha.sublist (List.Sublist.map _ List.filter_sublist)) b2 (by omega)
  refine ⟨r1, r2, p1, p2, ?_⟩
  have hbn := ok_near hb
  unfold Box.near at hbn
  have e1 : ((Plan.mk op (a - b.fr op) 0 false []).split b).1 = b.lo op a := by
    rcases hop with rfl | rfl <;> simp [Plan.split, Box.lo, Box.fr, Plan.op, Plan.at_]
  have e2 : ((Plan.mk op (a - b.fr op) 0 false []).split b).2 = b.hi op a := by
    rcases hop with rfl | rfl <;> (simp [Plan.split, Box.hi, Box.fr, Plan.op, Plan.at_]; omega)
  have hfr : -1000 ≤ b.fr op ∧ b.fr op ≤ 1000 := by unfold Box.fr; split <;> omega
  have hto : b.to_ op ≤ 2000 := by unfold Box.to_; split <;> omega
  have SB := splitBoxI_c (Plan.mk op (a - b.fr op) 0 false []) b ⟨by simp only [Plan.at_]; omega, by omega, by omega, by omega, by omega⟩
  rw [e1, e2] at SB
  refine acalls_tm T_tt Try.func47 rfl e_cutPlacesI 71 rfl (W8 _ _ .any .any .any .any .any .any (W8 .any .any .any .any .any .any .any .any (W8 .any .any .any .any .any .any .any .any (W8 .any .any .any .any .any .any .any .any (W8 .any .any .any .any .any .any .any .any (W8 .any .any .any .any .any .any .any .any (W8 .any .any .any .any .any .any .any .any (W8 .any .any .any .any .any .any .any .any (W8 .any .any .any .any .any .any .any .any [.any]))))))))) rfl (rv := [.cell 4 28, .tmp 5]) rfl (sx_sound (bl := []) T_tt _ _ _ ?_)
  simp (disch := omega) only [SX0, SX1, SX2, SX3, SX4, SX5, SX6, SX7, SX8, SU0, SY0, Nat.reduceAdd, Nat.reduceMul, Nat.reduceSub, Nat.reduceLeDiff, Nat.reduceEqDiff, Nat.reduceLT, Nat.reduceBEq, ↓reduceIte, Int.reduceLE, Int.reduceLT, Int.reduceToNat, Int.reduceNeg, reduceCtorEq, Int.reduceEq, SF0, SF1, SF2, DZc0, DWb0, DWa0, DLa0, DCg0, DCe0, DCe1, DCe2, DDb0, DBc0, DBc1, DKa0, DHb0, DHb1, DHa0, DDe0, DWc0]
  refine acall_own (firstCutI_c l b (by omega) (fun q hq => ok_near (hi q hq).1) (ok_near hb)) [] [] (by simp only [SX0, SX1, SX2, SX3, SX4, SX5, SX6, SX7, SX8, SU0, SY0, Nat.reduceAdd, Nat.reduceMul, Nat.reduceSub, Nat.reduceLeDiff, Nat.reduceEqDiff, Nat.reduceLT, Nat.reduceBEq, ↓reduceIte, Int.reduceLE, Int.reduceLT, Int.reduceToNat, Int.reduceNeg, reduceCtorEq, Int.reduceEq, SF0, SF1, SF2, DZc0, DWb0, DWa0, DLa0, DCg0, DCe0, DCe1, DCe2, DDb0, DBc0, DBc1, DKa0, DHb0, DHb1, DHa0, DDe0, DWc0, SX0]) (by decide) (by decide) (by rfl) (by simp only [SX0, SX1, SX2, SX3, SX4, SX5, SX6, SX7, SX8, SU0, SY0, Nat.reduceAdd, Nat.reduceMul, Nat.reduceSub, Nat.reduceLeDiff, Nat.reduceEqDiff, Nat.reduceLT, Nat.reduceBEq, ↓reduceIte, Int.reduceLE, Int.reduceLT, Int.reduceToNat, Int.reduceNeg, reduceCtorEq, Int.reduceEq, SF0, SF1, SF2, DZc0, DWb0, DWa0, DLa0, DCg0, DCe0, DCe1, DCe2, DDb0, DBc0, DBc1, DKa0, DHb0, DHb1, DHa0, DDe0, DWc0, SX0]) ?_
  rintro _ _ ⟨⟨op', a', ok, rfl, k1, k2⟩, rfl⟩
  have hok : ok = true := by
    cases ok
    · have := k2 rfl a
      rcases hop with rfl | rfl
      · exact absurd hf.1 this.1
      · exact absurd hf.1 this.2
    · rfl
  subst hok
  obtain ⟨u1, u2⟩ := hf.uniq (k1 rfl)
  subst u1
  have u3 : a' = a - b.fr op := by omega
  subst u3
  generalize hpl : Plan.mk op (a - b.fr op) 0 false [] = pl at *
  simp (disch := omega) only [SX0, SX1, SX2, SX3, SX4, SX5, SX6, SX7, SX8, SU0, SY0, Nat.reduceAdd, Nat.reduceMul, Nat.reduceSub, Nat.reduceLeDiff, Nat.reduceEqDiff, Nat.reduceLT, Nat.reduceBEq, ↓reduceIte, Int.reduceLE, Int.reduceLT, Int.reduceToNat, Int.reduceNeg, reduceCtorEq, Int.reduceEq, SF0, SF1, SF2, DZc0, DWb0, DWa0, DLa0, DCg0, DCe0, DCe1, DCe2, DDb0, DBc0, DBc1, DKa0, DHb0, DHb1, DHa0, DDe0, DWc0]
  refine acall_one SB (by simp [freeL, AV.free, Plan.free, Box.free]) (by simp [AV.free, freeL, Box.free]) ?_
  simp (disch := omega) only [SX0, SX1, SX2, SX3, SX4, SX5, SX6, SX7, SX8, SU0, SY0, Nat.reduceAdd, Nat.reduceMul, Nat.reduceSub, Nat.reduceLeDiff, Nat.reduceEqDiff, Nat.reduceLT, Nat.reduceBEq, ↓reduceIte, Int.reduceLE, Int.reduceLT, Int.reduceToNat, Int.reduceNeg, reduceCtorEq, Int.reduceEq, SF0, SF1, SF2, DZc0, DWb0, DWa0, DLa0, DCg0, DCe0, DCe1, DCe2, DDb0, DBc0, DBc1, DKa0, DHb0, DHb1, DHa0, DDe0, DWc0]
  refine awp_wk (wk_nil 10 6 (by decide) rfl) ?_
  refine awp_wk (wk_nil 11 6 (by decide) rfl) ?_
  simp (disch := omega) only [SX0, SX1, SX2, SX3, SX4, SX5, SX6, SX7, SX8, SU0, SY0, Nat.reduceAdd, Nat.reduceMul, Nat.reduceSub, Nat.reduceLeDiff, Nat.reduceEqDiff, Nat.reduceLT, Nat.reduceBEq, ↓reduceIte, Int.reduceLE, Int.reduceLT, Int.reduceToNat, Int.reduceNeg, reduceCtorEq, Int.reduceEq, SF0, SF1, SF2, DZc0, DWb0, DWa0, DLa0, DCg0, DCe0, DCe1, DCe2, DDb0, DBc0, DBc1, DKa0, DHb0, DHb1, DHa0, DDe0, DWc0]
  with_reducible refine awp_loop_h (G := Nat) 12 61 (fun i => [(10, .os 5 6 0 (lows op a (l.take i)).length), (11, .os 6 6 0 (highs op a (l.take i)).length), (31, .sl (l.map Place.cs)), (32, .val (.int .i64 l.length)), (33, .val (.int .i64 i))]) (fun i => [.cells b.cs, .cells [.val (.int .i64 0), .val (.int .i64 0), .val (.int .i64 0), .val (.bool false), .val (.slice none 0 0)], .cells pl.cs, .cells (b.lo op a).cs, .cells (b.hi op a).cs, .vec 6 ((lows op a (l.take i)).map Place.cs), .vec 6 ((highs op a (l.take i)).map Place.cs)]) (fun i => i ≤ l.length) (fun i => l.length - i) 0 (Nat.zero_le _) ?_ (fun i hi' => ?_)
  · simp (disch := omega) only [SX0, SX1, SX2, SX3, SX4, SX5, SX6, SX7, SX8, SU0, SY0, Nat.reduceAdd, Nat.reduceMul, Nat.reduceSub, Nat.reduceLeDiff, Nat.reduceEqDiff, Nat.reduceLT, Nat.reduceBEq, ↓reduceIte, Int.reduceLE, Int.reduceLT, Int.reduceToNat, Int.reduceNeg, reduceCtorEq, Int.reduceEq, SF0, SF1, SF2, DZc0, DWb0, DWa0, DLa0, DCg0, DCe0, DCe1, DCe2, DDb0, DBc0, DBc1, DKa0, DHb0, DHb1, DHa0, DDe0, DWc0]
    (refine wk_le ?_ ?_ ?_; (focus (simp [W8, leTm, leAV, AV.under, underL, Box.under, Plan.under, lows, highs]; done)); (focus (simp [leL, OB.under, underL, AV.under, Box.under, Plan.under, lows, highs]; done)); (focus (simp; done)))
  refine sx_sound (bl := []) T_tt _ _ _ ?_
  simp (disch := omega) only [SX0, SX1, SX2, SX3, SX4, SX5, SX6, SX7, SX8, SU0, SY0, Nat.reduceAdd, Nat.reduceMul, Nat.reduceSub, Nat.reduceLeDiff, Nat.reduceEqDiff, Nat.reduceLT, Nat.reduceBEq, ↓reduceIte, Int.reduceLE, Int.reduceLT, Int.reduceToNat, Int.reduceNeg, reduceCtorEq, Int.reduceEq, SF0, SF1, SF2, DZc0, DWb0, DWa0, DLa0, DCg0, DCe0, DCe1, DCe2, DDb0, DBc0, DBc1, DKa0, DHb0, DHb1, DHa0, DDe0, DWc0]
  refine br_dec (fun h1 => ?_) (fun h1 => ?_)
  · obtain ⟨q, hq⟩ := get_lt (l := l) (i := i) (by omega)
    have hqm := List.mem_of_getElem? hq
    have CI := insideOfI_c q.box (b.lo op a)
    rw [decide_eq_decide.2 (inside_lo (hi q hqm) c1 c2)] at CI
    have f1 := filter_next (f := fun q : Place => decide (q.highE op ≤ a)) hq
    have f2 := filter_next (f := fun q : Place => !decide (q.highE op ≤ a)) hq
    have g1 : (lows op a (l.take i)).length ≤ 255 := Nat.le_trans (List.length_filter_le _ _) (by rw [List.length_take]; omega)
    have g2 : (highs op a (l.take i)).length ≤ 255 := Nat.le_trans (List.length_filter_le _ _) (by rw [List.length_take]; omega)
    change lows op a (l.take (i + 1)) = lows op a (l.take i) ++ _ at f1
    change highs op a (l.take (i + 1)) = highs op a (l.take i) ++ _ at f2
    simp (disch := omega) only [SX0, SX1, SX2, SX3, SX4, SX5, SX6, SX7, SX8, SU0, SY0, Nat.reduceAdd, Nat.reduceMul, Nat.reduceSub, Nat.reduceLeDiff, Nat.reduceEqDiff, Nat.reduceLT, Nat.reduceBEq, ↓reduceIte, Int.reduceLE, Int.reduceLT, Int.reduceToNat, Int.reduceNeg, reduceCtorEq, Int.reduceEq, SF0, SF1, SF2, DZc0, DWb0, DWa0, DLa0, DCg0, DCe0, DCe1, DCe2, DDb0, DBc0, DBc1, DKa0, DHb0, DHb1, DHa0, DDe0, DWc0, hq, Place.drop_box, Place.drop_pb]
    refine acall_one CI (by simp [freeL, AV.free, Box.free]) rfl ?_
    simp (disch := omega) only [SX0, SX1, SX2, SX3, SX4, SX5, SX6, SX7, SX8, SU0, SY0, Nat.reduceAdd, Nat.reduceMul, Nat.reduceSub, Nat.reduceLeDiff, Nat.reduceEqDiff, Nat.reduceLT, Nat.reduceBEq, ↓reduceIte, Int.reduceLE, Int.reduceLT, Int.reduceToNat, Int.reduceNeg, reduceCtorEq, Int.reduceEq, SF0, SF1, SF2, DZc0, DWb0, DWa0, DLa0, DCg0, DCe0, DCe1, DCe2, DDb0, DBc0, DBc1, DKa0, DHb0, DHb1, DHa0, DDe0, DWc0]
    refine br_dec (fun h2 => ?_) (fun h2 => ?_)
    · simp only [h2, decide_true, if_true, Bool.not_true, Bool.false_eq_true, if_false, List.append_nil] at f1 f2
      simp (disch := omega) only [SX0, SX1, SX2, SX3, SX4, SX5, SX6, SX7, SX8, SU0, SY0, Nat.reduceAdd, Nat.reduceMul, Nat.reduceSub, Nat.reduceLeDiff, Nat.reduceEqDiff, Nat.reduceLT, Nat.reduceBEq, ↓reduceIte, Int.reduceLE, Int.reduceLT, Int.reduceToNat, Int.reduceNeg, reduceCtorEq, Int.reduceEq, SF0, SF1, SF2, DZc0, DWb0, DWa0, DLa0, DCg0, DCe0, DCe1, DCe2, DDb0, DBc0, DBc1, DKa0, DHb0, DHb1, DHa0, DDe0, DWc0, hq]
      refine req (by omega) ?_
      simp (disch := omega) only [SX0, SX1, SX2, SX3, SX4, SX5, SX6, SX7, SX8, SU0, SY0, Nat.reduceAdd, Nat.reduceMul, Nat.reduceSub, Nat.reduceLeDiff, Nat.reduceEqDiff, Nat.reduceLT, Nat.reduceBEq, ↓reduceIte, Int.reduceLE, Int.reduceLT, Int.reduceToNat, Int.reduceNeg, reduceCtorEq, Int.reduceEq, SF0, SF1, SF2, DZc0, DWb0, DWa0, DLa0, DCg0, DCe0, DCe1, DCe2, DDb0, DBc0, DBc1, DKa0, DHb0, DHb1, DHa0, DDe0, DWc0]
      refine ⟨i + 1, by omega, by omega, ?_⟩
      (refine wk_le ?_ ?_ ?_; (focus (simp [W8, leTm, leAV, AV.under, underL, Box.under, Plan.under, f1, f2]; done)); (focus (simp [leL, OB.under, underL, AV.under, Box.under, Plan.under, f1, f2]; done)); (focus (simp; done)))
    · simp only [h2, decide_false, if_true, Bool.not_false, Bool.false_eq_true, if_false, List.append_nil] at f1 f2
      simp (disch := omega) only [SX0, SX1, SX2, SX3, SX4, SX5, SX6, SX7, SX8, SU0, SY0, Nat.reduceAdd, Nat.reduceMul, Nat.reduceSub, Nat.reduceLeDiff, Nat.reduceEqDiff, Nat.reduceLT, Nat.reduceBEq, ↓reduceIte, Int.reduceLE, Int.reduceLT, Int.reduceToNat, Int.reduceNeg, reduceCtorEq, Int.reduceEq, SF0, SF1, SF2, DZc0, DWb0, DWa0, DLa0, DCg0, DCe0, DCe1, DCe2, DDb0, DBc0, DBc1, DKa0, DHb0, DHb1, DHa0, DDe0, DWc0, hq]
      refine req (by omega) ?_
      simp (disch := omega) only [SX0, SX1, SX2, SX3, SX4, SX5, SX6, SX7, SX8, SU0, SY0, Nat.reduceAdd, Nat.reduceMul, Nat.reduceSub, Nat.reduceLeDiff, Nat.reduceEqDiff, Nat.reduceLT, Nat.reduceBEq, ↓reduceIte, Int.reduceLE, Int.reduceLT, Int.reduceToNat, Int.reduceNeg, reduceCtorEq, Int.reduceEq, SF0, SF1, SF2, DZc0, DWb0, DWa0, DLa0, DCg0, DCe0, DCe1, DCe2, DDb0, DBc0, DBc1, DKa0, DHb0, DHb1, DHa0, DDe0, DWc0]
      refine ⟨i + 1, by omega, by omega, ?_⟩
      (refine wk_le ?_ ?_ ?_; (focus (simp [W8, leTm, leAV, AV.under, underL, Box.under, Plan.under, f1, f2]; done)); (focus (simp [leL, OB.under, underL, AV.under, Box.under, Plan.under, f1, f2]; done)); (focus (simp; done)))
  · have hil : i = l.length := by omega
    subst hil
    rw [List.take_length]
    simp (disch := omega) only [SX0, SX1, SX2, SX3, SX4, SX5, SX6, SX7, SX8, SU0, SY0, Nat.reduceAdd, Nat.reduceMul, Nat.reduceSub, Nat.reduceLeDiff, Nat.reduceEqDiff, Nat.reduceLT, Nat.reduceBEq, ↓reduceIte, Int.reduceLE, Int.reduceLT, Int.reduceToNat, Int.reduceNeg, reduceCtorEq, Int.reduceEq, SF0, SF1, SF2, DZc0, DWb0, DWa0, DLa0, DCg0, DCe0, DCe1, DCe2, DDb0, DBc0, DBc1, DKa0, DHb0, DHb1, DHa0, DDe0, DWc0]
    have t5 : List.take (lows op a l).length (List.map Place.cs (lows op a l)) = List.map Place.cs (lows op a l) := List.take_of_length_le (by simp)
    have t6 : List.take (highs op a l).length (List.map Place.cs (highs op a l)) = List.map Place.cs (highs op a l) := List.take_of_length_le (by simp)
    (refine acall_frz (r := 5) (k := 6) (es := (lows op a l).map Place.cs) rfl (by simp) ?_; simp only [AS.frz, W8_map, List.map_cons, List.map_nil, AV.frz, OB.frz, frzL, if_true, if_false, Nat.reduceEqDiff, Nat.zero_add, true_and, List.length_map, List.drop_zero, List.set_cons_succ, List.set_cons_zero, Work.frzm, Plan.frzm, Nat.le_refl, t5, Box.frzm, Box.frzL])
    (refine acall_frz (r := 6) (k := 6) (es := (highs op a l).map Place.cs) rfl (by simp) ?_; simp only [AS.frz, W8_map, List.map_cons, List.map_nil, AV.frz, OB.frz, frzL, if_true, if_false, Nat.reduceEqDiff, Nat.zero_add, true_and, List.length_map, List.drop_zero, List.set_cons_succ, List.set_cons_zero, Work.frzm, Plan.frzm, Nat.le_refl, t6, Box.frzm, Box.frzL])
    refine acall_one A1 (by simp [freeL, AV.free, Box.free]) (by simp [AV.free, freeL, Plan.free]) ?_
    cases r1 with
    | none =>
      simp (disch := omega) only [SX0, SX1, SX2, SX3, SX4, SX5, SX6, SX7, SX8, SU0, SY0, Nat.reduceAdd, Nat.reduceMul, Nat.reduceSub, Nat.reduceLeDiff, Nat.reduceEqDiff, Nat.reduceLT, Nat.reduceBEq, ↓reduceIte, Int.reduceLE, Int.reduceLT, Int.reduceToNat, Int.reduceNeg, reduceCtorEq, Int.reduceEq, SF0, SF1, SF2, DZc0, DWb0, DWa0, DLa0, DCg0, DCe0, DCe1, DCe2, DDb0, DBc0, DBc1, DKa0, DHb0, DHb1, DHa0, DDe0, DWc0, Option.isSome_none]
      refine fin_nrm ?_
      simp only [AV.nrm, nrmL]
      exact fin_free rfl ⟨by simp [combP, Plan.zero_cs], rfl⟩
    | some p1 =>
      simp (disch := omega) only [SX0, SX1, SX2, SX3, SX4, SX5, SX6, SX7, SX8, SU0, SY0, Nat.reduceAdd, Nat.reduceMul, Nat.reduceSub, Nat.reduceLeDiff, Nat.reduceEqDiff, Nat.reduceLT, Nat.reduceBEq, ↓reduceIte, Int.reduceLE, Int.reduceLT, Int.reduceToNat, Int.reduceNeg, reduceCtorEq, Int.reduceEq, SF0, SF1, SF2, DZc0, DWb0, DWa0, DLa0, DCg0, DCe0, DCe1, DCe2, DDb0, DBc0, DBc1, DKa0, DHb0, DHb1, DHa0, DDe0, DWc0, Option.getD_some, Option.isSome_some]
      refine acall_one A2 (by simp [freeL, AV.free, Box.free]) (by simp [AV.free, freeL, Plan.free]) ?_
      cases r2 with
      | none =>
        simp (disch := omega) only [SX0, SX1, SX2, SX3, SX4, SX5, SX6, SX7, SX8, SU0, SY0, Nat.reduceAdd, Nat.reduceMul, Nat.reduceSub, Nat.reduceLeDiff, Nat.reduceEqDiff, Nat.reduceLT, Nat.reduceBEq, ↓reduceIte, Int.reduceLE, Int.reduceLT, Int.reduceToNat, Int.reduceNeg, reduceCtorEq, Int.reduceEq, SF0, SF1, SF2, DZc0, DWb0, DWa0, DLa0, DCg0, DCe0, DCe1, DCe2, DDb0, DBc0, DBc1, DKa0, DHb0, DHb1, DHa0, DDe0, DWc0, Option.isSome_none]
        refine fin_nrm ?_
        simp only [AV.nrm, nrmL]
        exact fin_free rfl ⟨by simp [combP, Plan.zero_cs], rfl⟩
      | some p2 =>
        have epl : pl.cs = [.val (.int .i64 op), .val (.int .i64 (a - b.fr op)), .val (.int .i64 0), .val (.bool false), .sl []] := by rw [← hpl, Plan.cs_eq]; rfl
        simp (disch := omega) only [SX0, SX1, SX2, SX3, SX4, SX5, SX6, SX7, SX8, SU0, SY0, Nat.reduceAdd, Nat.reduceMul, Nat.reduceSub, Nat.reduceLeDiff, Nat.reduceEqDiff, Nat.reduceLT, Nat.reduceBEq, ↓reduceIte, Int.reduceLE, Int.reduceLT, Int.reduceToNat, Int.reduceNeg, reduceCtorEq, Int.reduceEq, SF0, SF1, SF2, DZc0, DWb0, DWa0, DLa0, DCg0, DCe0, DCe1, DCe2, DDb0, DBc0, DBc1, DKa0, DHb0, DHb1, DHa0, DDe0, DWc0, Option.getD_some, Option.isSome_some, epl]
        refine fin_free (by simp [AV.free, freeL, Plan.free]) ⟨?_, rfl⟩
        simp [combP, Plan.cs_eq (Plan.mk _ _ _ _ _), Plan.op, Plan.at_, Plan.pa, Plan.tu, Plan.ks]

theorem least_cut {l : List Place} {b : Box} {op a : Int} (h : IsCut l b op a) : ∃ c, IsCut l b op c ∧ ∀ d, d < c → ¬ IsCut l b op d := by
  obtain ⟨n, hn, hm⟩ := least_ex (p := fun n : Nat => IsCut l b op (b.fr op + n)) ⟨(a - b.fr op).toNat, by
    have := h.1
    rw [show b.fr op + ((a - b.fr op).toNat : Int) = a by omega]; exact h⟩
  refine ⟨_, hn, fun d hd hc => ?_⟩
  have h1 := hc.1
  have := hm (d - b.fr op).toNat (by rw [show b.fr op + ((d - b.fr op).toNat : Int) = d by omega]; exact hc)
  omega
theorem first_or (l : List Place) (b : Box) : (∃ op a, FirstCut l b op a) ∨ (∀ a, ¬ IsCut l b 2 a) ∧ ∀ a, ¬ IsCut l b 3 a := by
  by_cases h2 : ∃ a, IsCut l b 2 a
  · obtain ⟨a, ha⟩ := h2
    obtain ⟨c, hc, hd⟩ := least_cut ha
    exact .inl ⟨2, c, hc, hd, .inl rfl⟩
  by_cases h3 : ∃ a, IsCut l b 3 a
  · obtain ⟨a, ha⟩ := h3
    obtain ⟨c, hc, hd⟩ := least_cut ha
    exact .inl ⟨3, c, hc, hd, .inr ⟨rfl, fun a ha => h2 ⟨a, ha⟩⟩⟩
  · exact .inr ⟨fun a ha => h2 ⟨a, ha⟩, fun a ha => h3 ⟨a, ha⟩⟩

/-- Two places in the same glass, one of which fills it, meet. -/
theorem fill_meets {q b : Box} (hb : b.ok) (hq : q.inside b) : b.meets q := by
  unfold Box.inside at hq
  unfold Box.meets
  refine ⟨hb, hq.1, ?_⟩
  unfold Box.ok at *
  unfold Box.meet
  simp only
  omega

theorem e_planPlacesI : Enters Try.prog 26 := enters_of Try.func26 (by kernel_rfl) (by kernel_rfl)
set_option maxRecDepth 8000 in
set_option maxHeartbeats 4000000 in
theorem planPlacesI_s (n : Nat) (ih : ∀ m, m + 1 = n → PlanPC m) : PlanPC n := by
  intro l b hl hi ha hb hn
  have hb' := hb
  unfold Box.ok at hb'
  by_cases h1 : l.length = 0
  · have h1' : (l.length : Int) = 0 := by omega
    have e : l = [] := List.length_eq_zero_iff.1 h1
    refine ⟨some .zero, by rw [e]; exact .nil b, ?_⟩
    refine acalls_tm T_tt Try.func26 rfl e_planPlacesI 28 rfl (W8 _ _ .any .any .any .any .any .any (W8 .any .any .any .any .any .any .any .any (W8 .any .any .any .any .any .any .any .any [.any, .any, .any, .any, .any, .any]))) rfl (rv := [.cell 4 28, .tmp 5]) rfl (sx_sound (bl := []) T_tt _ _ _ ?_)
    simp (disch := omega) only [SX0, SX1, SX2, SX3, SX4, SX5, SX6, SX7, SX8, SU0, SY0, Nat.reduceAdd, Nat.reduceMul, Nat.reduceSub, Nat.reduceLeDiff, Nat.reduceEqDiff, Nat.reduceLT, Nat.reduceBEq, ↓reduceIte, Int.reduceLE, Int.reduceLT, Int.reduceToNat, Int.reduceNeg, reduceCtorEq, Int.reduceEq, SF0, SF1, SF2, DZc0, DWb0, DWa0, DLa0, DCg0, DCe0, DCe1, DCe2, DDb0, DBc0, DBc1, DKa0, DHb0, DHb1, DHa0, DDe0, DWc0, h1']
    refine fin_nrm ?_
    simp only [AV.nrm, nrmL]
    exact fin_free rfl ⟨by simp [Plan.zero_cs], rfl⟩
  have h1' : ¬ (l.length : Int) = 0 := by omega
  obtain ⟨q0, hq0⟩ := get_lt (l := l) (i := 0) (by omega)
  by_cases h2 : q0.box = b
  · have e : l = [q0] := by
      cases l with
      | nil => simp at h1
      | cons x l =>
        simp at hq0; subst hq0
        cases l with
        | nil => rfl
        | cons y l =>
          rw [List.map_cons, List.map_cons, List.pairwise_cons] at ha
          exact absurd (fill_meets (by rw [h2]; exact hb) (by rw [h2]; exact hi y (by simp))) (ha.1 y.box (by simp))
    refine ⟨some (.mk 1 0 q0.pa q0.tu []), by rw [e]; exact .one q0 b h2, ?_⟩
    refine acalls_tm T_tt Try.func26 rfl e_planPlacesI 28 rfl (W8 _ _ .any .any .any .any .any .any (W8 .any .any .any .any .any .any .any .any (W8 .any .any .any .any .any .any .any .any [.any, .any, .any, .any, .any, .any]))) rfl (rv := [.cell 4 28, .tmp 5]) rfl (sx_sound (bl := []) T_tt _ _ _ ?_)
    simp (disch := omega) only [SX0, SX1, SX2, SX3, SX4, SX5, SX6, SX7, SX8, SU0, SY0, Nat.reduceAdd, Nat.reduceMul, Nat.reduceSub, Nat.reduceLeDiff, Nat.reduceEqDiff, Nat.reduceLT, Nat.reduceBEq, ↓reduceIte, Int.reduceLE, Int.reduceLT, Int.reduceToNat, Int.reduceNeg, reduceCtorEq, Int.reduceEq, SF0, SF1, SF2, DZc0, DWb0, DWa0, DLa0, DCg0, DCe0, DCe1, DCe2, DDb0, DBc0, DBc1, DKa0, DHb0, DHb1, DHa0, DDe0, DWc0]
    refine br_dec (fun h0 => absurd h0 h1') (fun _ => ?_)
    simp (disch := omega) only [SX0, SX1, SX2, SX3, SX4, SX5, SX6, SX7, SX8, SU0, SY0, Nat.reduceAdd, Nat.reduceMul, Nat.reduceSub, Nat.reduceLeDiff, Nat.reduceEqDiff, Nat.reduceLT, Nat.reduceBEq, ↓reduceIte, Int.reduceLE, Int.reduceLT, Int.reduceToNat, Int.reduceNeg, reduceCtorEq, Int.reduceEq, SF0, SF1, SF2, DZc0, DWb0, DWa0, DLa0, DCg0, DCe0, DCe1, DCe2, DDb0, DBc0, DBc1, DKa0, DHb0, DHb1, DHa0, DDe0, DWc0, hq0, Place.drop_box, Place.drop_pb, h2]
    refine awp_drawA T_tt mixed (by decide +kernel) (by kernel_rfl) (by kernel_rfl) ?_
    simp (disch := omega) only [SX0, SX1, SX2, SX3, SX4, SX5, SX6, SX7, SX8, SU0, SY0, Nat.reduceAdd, Nat.reduceMul, Nat.reduceSub, Nat.reduceLeDiff, Nat.reduceEqDiff, Nat.reduceLT, Nat.reduceBEq, ↓reduceIte, Int.reduceLE, Int.reduceLT, Int.reduceToNat, Int.reduceNeg, reduceCtorEq, Int.reduceEq, SF0, SF1, SF2, DZc0, DWb0, DWa0, DLa0, DCg0, DCe0, DCe1, DCe2, DDb0, DBc0, DBc1, DKa0, DHb0, DHb1, DHa0, DDe0, DWc0, hq0, Place.drop_box, Place.drop_pb, h2, eq_self, decide_true]
    refine awp_float (bl := []) T_tt mixed [0, 1] [0, 1, 2, 3, 4, 5, 6, 7, 8] [(9, [(0, .f 16), (1, .f 17), (2, .f 18), (3, .f 19), (4, .f 20), (5, .f 21), (6, .f 22), (7, .f 23), (8, .f 24)]), (10, [])] [] (by kernel_rfl) (by kernel_rfl) ?_
    simp (disch := omega) only [SX0, SX1, SX2, SX3, SX4, SX5, SX6, SX7, SX8, SU0, SY0, Nat.reduceAdd, Nat.reduceMul, Nat.reduceSub, Nat.reduceLeDiff, Nat.reduceEqDiff, Nat.reduceLT, Nat.reduceBEq, ↓reduceIte, Int.reduceLE, Int.reduceLT, Int.reduceToNat, Int.reduceNeg, reduceCtorEq, Int.reduceEq, SF0, SF1, SF2, DZc0, DWb0, DWa0, DLa0, DCg0, DCe0, DCe1, DCe2, DDb0, DBc0, DBc1, DKa0, DHb0, DHb1, DHa0, DDe0, DWc0, hq0]
    refine fin_nrm ?_
    simp only [AV.nrm, nrmL]
    exact fin_free rfl ⟨by simp [Plan.cs_eq (Plan.mk _ _ _ _ _), Plan.op, Plan.at_, Plan.pa, Plan.tu, Plan.ks], rfl⟩
  · by_cases hf : ∃ op a, FirstCut l b op a
    · obtain ⟨op, a, hf⟩ := hf
      obtain ⟨r1, r2, p1, p2, A⟩ := cutPlacesI_cut (n - 1) (ih (n - 1) (by omega)) l b hl hi ha hb (by omega) op a hf
      refine ⟨_, .cut op a l b r1 r2 (by rintro rfl; simp at h1) (fun q e => by subst e; simp at hq0; rw [hq0]; exact h2) hf p1 p2, ?_⟩
      refine acalls_tm T_tt Try.func26 rfl e_planPlacesI 28 rfl (W8 _ _ .any .any .any .any .any .any (W8 .any .any .any .any .any .any .any .any (W8 .any .any .any .any .any .any .any .any [.any, .any, .any, .any, .any, .any]))) rfl (rv := [.cell 4 28, .tmp 5]) rfl (sx_sound (bl := []) T_tt _ _ _ ?_)
      simp (disch := omega) only [SX0, SX1, SX2, SX3, SX4, SX5, SX6, SX7, SX8, SU0, SY0, Nat.reduceAdd, Nat.reduceMul, Nat.reduceSub, Nat.reduceLeDiff, Nat.reduceEqDiff, Nat.reduceLT, Nat.reduceBEq, ↓reduceIte, Int.reduceLE, Int.reduceLT, Int.reduceToNat, Int.reduceNeg, reduceCtorEq, Int.reduceEq, SF0, SF1, SF2, DZc0, DWb0, DWa0, DLa0, DCg0, DCe0, DCe1, DCe2, DDb0, DBc0, DBc1, DKa0, DHb0, DHb1, DHa0, DDe0, DWc0]
      refine br_dec (fun h0 => absurd h0 h1') (fun _ => ?_)
      simp (disch := omega) only [SX0, SX1, SX2, SX3, SX4, SX5, SX6, SX7, SX8, SU0, SY0, Nat.reduceAdd, Nat.reduceMul, Nat.reduceSub, Nat.reduceLeDiff, Nat.reduceEqDiff, Nat.reduceLT, Nat.reduceBEq, ↓reduceIte, Int.reduceLE, Int.reduceLT, Int.reduceToNat, Int.reduceNeg, reduceCtorEq, Int.reduceEq, SF0, SF1, SF2, DZc0, DWb0, DWa0, DLa0, DCg0, DCe0, DCe1, DCe2, DDb0, DBc0, DBc1, DKa0, DHb0, DHb1, DHa0, DDe0, DWc0, hq0, Place.drop_box, Place.drop_pb, h2]
      refine awp_drawA T_tt mixed (by decide +kernel) (by kernel_rfl) (by kernel_rfl) ?_
      simp (disch := omega) only [SX0, SX1, SX2, SX3, SX4, SX5, SX6, SX7, SX8, SU0, SY0, Nat.reduceAdd, Nat.reduceMul, Nat.reduceSub, Nat.reduceLeDiff, Nat.reduceEqDiff, Nat.reduceLT, Nat.reduceBEq, ↓reduceIte, Int.reduceLE, Int.reduceLT, Int.reduceToNat, Int.reduceNeg, reduceCtorEq, Int.reduceEq, SF0, SF1, SF2, DZc0, DWb0, DWa0, DLa0, DCg0, DCe0, DCe1, DCe2, DDb0, DBc0, DBc1, DKa0, DHb0, DHb1, DHa0, DDe0, DWc0, hq0, Place.drop_box, Place.drop_pb]
      refine br_dec (fun h3 => absurd h3 h2) (fun _ => ?_)
      simp (disch := omega) only [SX0, SX1, SX2, SX3, SX4, SX5, SX6, SX7, SX8, SU0, SY0, Nat.reduceAdd, Nat.reduceMul, Nat.reduceSub, Nat.reduceLeDiff, Nat.reduceEqDiff, Nat.reduceLT, Nat.reduceBEq, ↓reduceIte, Int.reduceLE, Int.reduceLT, Int.reduceToNat, Int.reduceNeg, reduceCtorEq, Int.reduceEq, SF0, SF1, SF2, DZc0, DWb0, DWa0, DLa0, DCg0, DCe0, DCe1, DCe2, DDb0, DBc0, DBc1, DKa0, DHb0, DHb1, DHa0, DDe0, DWc0]
      refine acall_one A (by simp [freeL, AV.free, Box.free]) (by simp [AV.free, freeL, Plan.free]) ?_
      simp (disch := omega) only [SX0, SX1, SX2, SX3, SX4, SX5, SX6, SX7, SX8, SU0, SY0, Nat.reduceAdd, Nat.reduceMul, Nat.reduceSub, Nat.reduceLeDiff, Nat.reduceEqDiff, Nat.reduceLT, Nat.reduceBEq, ↓reduceIte, Int.reduceLE, Int.reduceLT, Int.reduceToNat, Int.reduceNeg, reduceCtorEq, Int.reduceEq, SF0, SF1, SF2, DZc0, DWb0, DWa0, DLa0, DCg0, DCe0, DCe1, DCe2, DDb0, DBc0, DBc1, DKa0, DHb0, DHb1, DHa0, DDe0, DWc0]
      exact fin_free (by simp [AV.free, freeL, Plan.free]) ⟨rfl, rfl⟩
    · obtain ⟨n2, n3⟩ := (first_or l b).resolve_left hf
      have A := cutPlacesI_none l b hl hi hb n2 n3
      refine ⟨none, .none l b (by rintro rfl; simp at h1) (fun q e => by subst e; simp at hq0; rw [hq0]; exact h2) n2 n3, ?_⟩
      refine acalls_tm T_tt Try.func26 rfl e_planPlacesI 28 rfl (W8 _ _ .any .any .any .any .any .any (W8 .any .any .any .any .any .any .any .any (W8 .any .any .any .any .any .any .any .any [.any, .any, .any, .any, .any, .any]))) rfl (rv := [.cell 4 28, .tmp 5]) rfl (sx_sound (bl := []) T_tt _ _ _ ?_)
      simp (disch := omega) only [SX0, SX1, SX2, SX3, SX4, SX5, SX6, SX7, SX8, SU0, SY0, Nat.reduceAdd, Nat.reduceMul, Nat.reduceSub, Nat.reduceLeDiff, Nat.reduceEqDiff, Nat.reduceLT, Nat.reduceBEq, ↓reduceIte, Int.reduceLE, Int.reduceLT, Int.reduceToNat, Int.reduceNeg, reduceCtorEq, Int.reduceEq, SF0, SF1, SF2, DZc0, DWb0, DWa0, DLa0, DCg0, DCe0, DCe1, DCe2, DDb0, DBc0, DBc1, DKa0, DHb0, DHb1, DHa0, DDe0, DWc0]
      refine br_dec (fun h0 => absurd h0 h1') (fun _ => ?_)
      simp (disch := omega) only [SX0, SX1, SX2, SX3, SX4, SX5, SX6, SX7, SX8, SU0, SY0, Nat.reduceAdd, Nat.reduceMul, Nat.reduceSub, Nat.reduceLeDiff, Nat.reduceEqDiff, Nat.reduceLT, Nat.reduceBEq, ↓reduceIte, Int.reduceLE, Int.reduceLT, Int.reduceToNat, Int.reduceNeg, reduceCtorEq, Int.reduceEq, SF0, SF1, SF2, DZc0, DWb0, DWa0, DLa0, DCg0, DCe0, DCe1, DCe2, DDb0, DBc0, DBc1, DKa0, DHb0, DHb1, DHa0, DDe0, DWc0, hq0, Place.drop_box, Place.drop_pb, h2]
      refine awp_drawA T_tt mixed (by decide +kernel) (by kernel_rfl) (by kernel_rfl) ?_
      simp (disch := omega) only [SX0, SX1, SX2, SX3, SX4, SX5, SX6, SX7, SX8, SU0, SY0, Nat.reduceAdd, Nat.reduceMul, Nat.reduceSub, Nat.reduceLeDiff, Nat.reduceEqDiff, Nat.reduceLT, Nat.reduceBEq, ↓reduceIte, Int.reduceLE, Int.reduceLT, Int.reduceToNat, Int.reduceNeg, reduceCtorEq, Int.reduceEq, SF0, SF1, SF2, DZc0, DWb0, DWa0, DLa0, DCg0, DCe0, DCe1, DCe2, DDb0, DBc0, DBc1, DKa0, DHb0, DHb1, DHa0, DDe0, DWc0, hq0, Place.drop_box, Place.drop_pb]
      refine br_dec (fun h3 => absurd h3 h2) (fun _ => ?_)
      simp (disch := omega) only [SX0, SX1, SX2, SX3, SX4, SX5, SX6, SX7, SX8, SU0, SY0, Nat.reduceAdd, Nat.reduceMul, Nat.reduceSub, Nat.reduceLeDiff, Nat.reduceEqDiff, Nat.reduceLT, Nat.reduceBEq, ↓reduceIte, Int.reduceLE, Int.reduceLT, Int.reduceToNat, Int.reduceNeg, reduceCtorEq, Int.reduceEq, SF0, SF1, SF2, DZc0, DWb0, DWa0, DLa0, DCg0, DCe0, DCe1, DCe2, DDb0, DBc0, DBc1, DKa0, DHb0, DHb1, DHa0, DDe0, DWc0]
      refine acall_one A (by simp [freeL, AV.free, Box.free]) (by simp [AV.free, freeL, Plan.free]) ?_
      simp (disch := omega) only [SX0, SX1, SX2, SX3, SX4, SX5, SX6, SX7, SX8, SU0, SY0, Nat.reduceAdd, Nat.reduceMul, Nat.reduceSub, Nat.reduceLeDiff, Nat.reduceEqDiff, Nat.reduceLT, Nat.reduceBEq, ↓reduceIte, Int.reduceLE, Int.reduceLT, Int.reduceToNat, Int.reduceNeg, reduceCtorEq, Int.reduceEq, SF0, SF1, SF2, DZc0, DWb0, DWa0, DLa0, DCg0, DCe0, DCe1, DCe2, DDb0, DBc0, DBc1, DKa0, DHb0, DHb1, DHa0, DDe0, DWc0]
      exact fin_free (by simp [AV.free, freeL, Plan.free]) ⟨rfl, rfl⟩

theorem planPlacesI_n : ∀ n, PlanPC n := fun n => by
  induction n with
  | zero => exact planPlacesI_s 0 fun m h => by omega
  | succ n ih => exact planPlacesI_s (n + 1) fun m h => by rw [show m = n from by omega]; exact ih

theorem sheet_box_ok {k : Work} (h : k.ok) : k.sheet.ok := Box.sane_ok (Work.sheet_sane h)
theorem e_planOfPlacesI : Enters Try.prog 11 := enters_of Try.func11 (by kernel_rfl) (by kernel_rfl)
set_option maxRecDepth 8000 in
theorem planOfPlacesI_no (k : Work) (l : List Place) (hk : k.Ps.length < 2 ^ 40) (hl : l.length < 2 ^ 40) (h : ¬ placesOk k l) : ACalls Try.prog 11 [.agg k.cs, .sl (l.map Place.cs)] [] [] (fun x L => x = .tup [.agg Plan.zero.cs, .val (.bool false)] ∧ L = []) := by
  have V := validPlacesI_c k l hk hl
  rw [decide_eq_false h] at V
  refine acalls_tm T_tt Try.func11 rfl e_planOfPlacesI 15 rfl (W8 _ _ .any .any .any .any .any .any (W8 .any .any .any .any .any .any .any .any [.any])) rfl (rv := [.cell 4 28, .tmp 5]) rfl (sx_sound (bl := []) T_tt _ _ _ ?_)
  simp (disch := omega) only [SX0, SX1, SX2, SX3, SX4, SX5, SX6, SX7, SX8, SU0, SY0, Nat.reduceAdd, Nat.reduceMul, Nat.reduceSub, Nat.reduceLeDiff, Nat.reduceEqDiff, Nat.reduceLT, Nat.reduceBEq, ↓reduceIte, Int.reduceLE, Int.reduceLT, Int.reduceToNat, Int.reduceNeg, reduceCtorEq, Int.reduceEq, SF0, SF1, SF2, DZc0, DWb0, DWa0, DLa0, DCg0, DCe0, DCe1, DCe2, DDb0, DBc0, DBc1, DKa0, DHb0, DHb1, DHa0, DDe0, DWc0]
  refine acall_one V (by simp [freeL, AV.free, Work.free]) rfl ?_
  simp (disch := omega) only [SX0, SX1, SX2, SX3, SX4, SX5, SX6, SX7, SX8, SU0, SY0, Nat.reduceAdd, Nat.reduceMul, Nat.reduceSub, Nat.reduceLeDiff, Nat.reduceEqDiff, Nat.reduceLT, Nat.reduceBEq, ↓reduceIte, Int.reduceLE, Int.reduceLT, Int.reduceToNat, Int.reduceNeg, reduceCtorEq, Int.reduceEq, SF0, SF1, SF2, DZc0, DWb0, DWa0, DLa0, DCg0, DCe0, DCe1, DCe2, DDb0, DBc0, DBc1, DKa0, DHb0, DHb1, DHa0, DDe0, DWc0]
  refine fin_nrm ?_
  simp only [AV.nrm, nrmL]
  exact fin_free rfl ⟨by simp [Plan.zero_cs], rfl⟩

set_option maxRecDepth 8000 in
theorem planOfPlacesI_c (k : Work) (l : List Place) (hk : k.Ps.length < 2 ^ 40) (h : placesOk k l) : ∃ r : Option Plan, PF l k.sheet r ∧ ACalls Try.prog 11 [.agg k.cs, .sl (l.map Place.cs)] [] [] (fun x L => x = .tup [.agg (r.getD .zero).cs, .val (.bool r.isSome)] ∧ L = []) := by
  have hll := h.1.2
  have V := validPlacesI_c k l hk (by omega)
  rw [decide_eq_true h] at V
  have hsh := Work.sheet_sane h.1.1
  unfold Box.sane at hsh
  obtain ⟨r, hr, A⟩ := planPlacesI_n 1000 l k.sheet (by omega) (fun q hq => (h.2.1 q hq).2.1) h.2.2 (sheet_box_ok h.1.1) (by omega)
  refine ⟨r, hr, ?_⟩
  refine acalls_tm T_tt Try.func11 rfl e_planOfPlacesI 15 rfl (W8 _ _ .any .any .any .any .any .any (W8 .any .any .any .any .any .any .any .any [.any])) rfl (rv := [.cell 4 28, .tmp 5]) rfl (sx_sound (bl := []) T_tt _ _ _ ?_)
  simp (disch := omega) only [SX0, SX1, SX2, SX3, SX4, SX5, SX6, SX7, SX8, SU0, SY0, Nat.reduceAdd, Nat.reduceMul, Nat.reduceSub, Nat.reduceLeDiff, Nat.reduceEqDiff, Nat.reduceLT, Nat.reduceBEq, ↓reduceIte, Int.reduceLE, Int.reduceLT, Int.reduceToNat, Int.reduceNeg, reduceCtorEq, Int.reduceEq, SF0, SF1, SF2, DZc0, DWb0, DWa0, DLa0, DCg0, DCe0, DCe1, DCe2, DDb0, DBc0, DBc1, DKa0, DHb0, DHb1, DHa0, DDe0, DWc0]
  refine acall_one V (by simp [freeL, AV.free, Work.free]) rfl ?_
  simp (disch := omega) only [SX0, SX1, SX2, SX3, SX4, SX5, SX6, SX7, SX8, SU0, SY0, Nat.reduceAdd, Nat.reduceMul, Nat.reduceSub, Nat.reduceLeDiff, Nat.reduceEqDiff, Nat.reduceLT, Nat.reduceBEq, ↓reduceIte, Int.reduceLE, Int.reduceLT, Int.reduceToNat, Int.reduceNeg, reduceCtorEq, Int.reduceEq, SF0, SF1, SF2, DZc0, DWb0, DWa0, DLa0, DCg0, DCe0, DCe1, DCe2, DDb0, DBc0, DBc1, DKa0, DHb0, DHb1, DHa0, DDe0, DWc0]
  refine acall_one (sheetOf_c k) (by simp [freeL, AV.free, Work.free]) rfl ?_
  simp (disch := omega) only [SX0, SX1, SX2, SX3, SX4, SX5, SX6, SX7, SX8, SU0, SY0, Nat.reduceAdd, Nat.reduceMul, Nat.reduceSub, Nat.reduceLeDiff, Nat.reduceEqDiff, Nat.reduceLT, Nat.reduceBEq, ↓reduceIte, Int.reduceLE, Int.reduceLT, Int.reduceToNat, Int.reduceNeg, reduceCtorEq, Int.reduceEq, SF0, SF1, SF2, DZc0, DWb0, DWa0, DLa0, DCg0, DCe0, DCe1, DCe2, DDb0, DBc0, DBc1, DKa0, DHb0, DHb1, DHa0, DDe0, DWc0]
  refine acall_one A (by simp [freeL, AV.free, Box.free]) (by simp [AV.free, freeL, Plan.free]) ?_
  simp (disch := omega) only [SX0, SX1, SX2, SX3, SX4, SX5, SX6, SX7, SX8, SU0, SY0, Nat.reduceAdd, Nat.reduceMul, Nat.reduceSub, Nat.reduceLeDiff, Nat.reduceEqDiff, Nat.reduceLT, Nat.reduceBEq, ↓reduceIte, Int.reduceLE, Int.reduceLT, Int.reduceToNat, Int.reduceNeg, reduceCtorEq, Int.reduceEq, SF0, SF1, SF2, DZc0, DWb0, DWa0, DLa0, DCg0, DCe0, DCe1, DCe2, DDb0, DBc0, DBc1, DKa0, DHb0, DHb1, DHa0, DDe0, DWc0]
  exact fin_free (by simp [AV.free, freeL, Plan.free]) ⟨rfl, rfl⟩

end Go.Pc
