/- The reference's table, exactly. -/
import Derived.Test.YtkcpcmobmalijaaYi
import Derived.Test.YtkcpcmobmalijaaAlr
import Derived.Test.YtkcpcmobmalijaaJa
set_option linter.unusedSimpArgs false
set_option linter.unusedVariables false
namespace Go.Pc
open Go Go.Proofs

/-- The row of a width, as far as it is told. -/
def rowD (k : Work) (vs : List Int) (H w h : Nat) : List Int := (List.range (H + 1)).map fun b => if b < h then vt k vs w b else 0
def tabR (k : Work) (vs : List Int) (H w : Nat) : List AV := (List.range w).map fun a => .sl (ints (rowD k vs H a (H + 1)))
theorem rowD_len (k : Work) (vs : List Int) (H w h : Nat) : (rowD k vs H w h).length = H + 1 := by simp [rowD]
theorem tabR_len (k : Work) (vs : List Int) (H w : Nat) : (tabR k vs H w).length = w := by simp [tabR]

theorem tabR_under (k : Work) (vs : List Int) (H n m : Nat) (hm : 2 < m) : ∀ w, underL m (tabR k vs H w ++ [.os 2 1 0 n]) = true := fun w => by
  unfold tabR
  generalize List.range w = l
  induction l with
  | nil => simp [underL, AV.under, hm]
  | cons x l ih => simp only [List.map_cons, List.cons_append, underL, ih, AV.under, Bool.and_self]
theorem tabR_pure (k : Work) (vs : List Int) (H w : Nat) : (tabR k vs H w).all AV.pure = true := by
  unfold tabR
  rw [List.all_eq_true]
  intro x hx
  obtain ⟨a, _, rfl⟩ := List.mem_map.1 hx
  rfl
theorem rowD_all {k : Work} {vs : List Int} {H w h : Nat} (hz : w = 0 ∨ H + 1 ≤ h) : rowD k vs H w h = rowD k vs H w (H + 1) := by
  unfold rowD
  refine List.map_congr_left fun b hb => ?_
  have := List.mem_range.1 hb
  rcases hz with rfl | hz
  · rw [vt_zero (.inl rfl)]; simp
  · rw [if_pos (by omega), if_pos (by omega)]

theorem Work.frzLE (r j : Nat) (es : List (List AV)) (w : Work) : frzL r j es w.cs = w.cs := freeL_frz r j es w.free
theorem tabR_free (k : Work) (vs : List Int) (H w : Nat) : freeL (tabR k vs H w) = true := by
  unfold tabR
  generalize List.range w = l
  induction l with
  | nil => rfl
  | cons x l ih => simp only [List.map_cons, freeL, ih, AV.free]; rfl
/-- The row that was built is frozen. -/
theorem tabR_frz {k : Work} {vs : List Int} {H w h : Nat} (hz : w = 0 ∨ H + 1 ≤ h) : List.map (AV.frz 2 1 (ints (rowD k vs H w h))) (tabR k vs H w ++ [AV.os 2 1 0 (H + 1)]) = tabR k vs H (w + 1) := by
  have h1 : tabR k vs H (w + 1) = tabR k vs H w ++ [.sl (ints (rowD k vs H w (H + 1)))] := by unfold tabR; rw [List.range_succ, List.map_append]; rfl
  have h2 : (AV.os 2 1 0 (H + 1)).frz 2 1 (ints (rowD k vs H w h)) = .sl (ints (rowD k vs H w h)) := by
    have : (ints (rowD k vs H w h)).length = H + 1 := by simp [ints, rowD]
    simp only [AV.frz, this]
    simp [List.take_of_length_le (Nat.le_of_eq this)]
  rw [List.map_append, freeL_frzm _ _ _ (tabR_free k vs H w), h1, List.map_cons, List.map_nil, h2, rowD_all hz]

theorem rowD_get {k : Work} {vs : List Int} {H w h b : Nat} (hb : b ≤ H) (hbh : b < h) : (rowD k vs H w h)[b]? = some (vt k vs w b) := by
  unfold rowD
  rw [List.getElem?_map, List.getElem?_range (by omega), Option.map_some, if_pos hbh]
theorem rowD_next {k : Work} {vs : List Int} {H w h : Nat} (hb : h ≤ H) : (rowD k vs H w h)[h]? = some 0 := by
  unfold rowD
  rw [List.getElem?_map, List.getElem?_range (by omega), Option.map_some, if_neg (by omega)]
theorem rowD_put {k : Work} {vs : List Int} {H w h : Nat} (hh : h ≤ H) : (rowD k vs H w h).set h (vt k vs w h) = rowD k vs H w (h + 1) := by
  refine List.ext_getElem? fun i => ?_
  rw [List.getElem?_set]
  simp only [rowD, List.length_map, List.length_range, List.getElem?_map]
  by_cases hi : i < H + 1
  · rw [List.getElem?_range hi, Option.map_some]
    by_cases e : h = i
    · subst e
      rw [if_pos rfl, if_pos hi, Option.map_some, if_pos (by omega)]
    · rw [if_neg e]
      simp only [Option.map_some, Option.some.injEq]
      by_cases h2 : i < h
      · rw [if_pos h2, if_pos (by omega)]
      · rw [if_neg h2, if_neg (by omega)]
  · rw [if_neg (by omega), List.getElem?_eq_none (by simp; omega)]; rfl

theorem e_valueTableX : Enters Try.prog 66 := enters_of Try.func66 (by kernel_rfl) (by kernel_rfl)
set_option maxRecDepth 16000 in
set_option maxHeartbeats 8000000 in
theorem valueTableX_c (k : Work) (vs : List Int) (W H : Nat) (hv : fineV vs) (hk : k.Ps.length < 2 ^ 40) (hW : k.W = W) (hH : k.H = H) (hW16 : W ≤ 16) (hH16 : H ≤ 16) : ACalls Try.prog 66 [.agg k.cs, .sl (ints vs)] [] [] (fun r L => r = .sl ((tabR k vs H (W + 1)).map fun c => [c]) ∧ L = []) := by
  obtain ⟨hvl, hvb⟩ := hv
  refine acalls_tm T_tt Try.func66 rfl e_valueTableX 100 rfl (W8 _ _ .any .any .any .any .any .any (W8 .any .any .any .any .any .any .any .any (W8 .any .any .any .any .any .any .any .any (W8 .any .any .any .any .any .any .any .any (W8 .any .any .any .any .any .any .any .any (W8 .any .any .any .any .any .any .any .any (W8 .any .any .any .any .any .any .any .any (W8 .any .any .any .any .any .any .any .any (W8 .any .any .any .any .any .any .any .any (W8 .any .any .any .any .any .any .any .any (W8 .any .any .any .any .any .any .any .any (W8 .any .any .any .any .any .any .any .any [.any, .any, .any, .any, .any, .any])))))))))))) rfl (rv := [.tmp 4]) rfl (sx_sound (bl := []) T_tt _ _ _ ?_)
  simp (disch := omega) only [SX0, SX1, SX2, SX3, SX4, SX5, SX6, SX7, SX8, SU0, SY0, SY1, Nat.reduceAdd, Nat.reduceMul, Nat.reduceSub, Nat.reduceLeDiff, Nat.reduceEqDiff, Nat.reduceLT, Nat.reduceBEq, ↓reduceIte, Int.reduceLE, Int.reduceLT, Int.reduceToNat, Int.reduceNeg, reduceCtorEq, Int.reduceEq, SF0, SF1, SF2, DHb0, DHb1, DHa0, DCg0, DCe0, DCe1, DCe2, DDb0, DBc0, DBc1, DDe0, DKa0, DYb0, DAlh0]
  with_reducible refine awp_loop_h (G := Nat) 7 95 (fun w => [(5, .os 1 1 0 w), (6, .val (.int .i64 w)), (12, .any)]) (fun w => [.cells k.cs, .vec 1 ((tabR k vs H w).map fun c => [c])]) (fun w => w ≤ W + 1) (fun w => W + 1 - w) 0 (Nat.zero_le _) ?_ (fun w hw => ?_)
  · simp (disch := omega) only [SX0, SX1, SX2, SX3, SX4, SX5, SX6, SX7, SX8, SU0, SY0, SY1, Nat.reduceAdd, Nat.reduceMul, Nat.reduceSub, Nat.reduceLeDiff, Nat.reduceEqDiff, Nat.reduceLT, Nat.reduceBEq, ↓reduceIte, Int.reduceLE, Int.reduceLT, Int.reduceToNat, Int.reduceNeg, reduceCtorEq, Int.reduceEq, SF0, SF1, SF2, DHb0, DHb1, DHa0, DCg0, DCe0, DCe1, DCe2, DDb0, DBc0, DBc1, DDe0, DKa0, DYb0, DAlh0]
    (refine wk_le ?_ ?_ ?_; (focus (simp [W8, leTm, leAV, AV.under, underL, Work.under, tabR]; done)); (focus (simp [leL, OB.under, underL, AV.under, Work.under, tabR]; done)); (focus (simp; done)))
  refine awp_step (bl := []) T_tt ?_
  simp (disch := omega) only [SX0, SX1, SX2, SX3, SX4, SX5, SX6, SX7, SX8, SU0, SY0, SY1, Nat.reduceAdd, Nat.reduceMul, Nat.reduceSub, Nat.reduceLeDiff, Nat.reduceEqDiff, Nat.reduceLT, Nat.reduceBEq, ↓reduceIte, Int.reduceLE, Int.reduceLT, Int.reduceToNat, Int.reduceNeg, reduceCtorEq, Int.reduceEq, SF0, SF1, SF2, DHb0, DHb1, DHa0, DCg0, DCe0, DCe1, DCe2, DDb0, DBc0, DBc1, DDe0, DKa0, DYb0, DAlh0, hW]
  refine br_dec (fun h1 => ?_) (fun h1 => ?_)
  · simp (disch := omega) only [SX0, SX1, SX2, SX3, SX4, SX5, SX6, SX7, SX8, SU0, SY0, SY1, Nat.reduceAdd, Nat.reduceMul, Nat.reduceSub, Nat.reduceLeDiff, Nat.reduceEqDiff, Nat.reduceLT, Nat.reduceBEq, ↓reduceIte, Int.reduceLE, Int.reduceLT, Int.reduceToNat, Int.reduceNeg, reduceCtorEq, Int.reduceEq, SF0, SF1, SF2, DHb0, DHb1, DHa0, DCg0, DCe0, DCe1, DCe2, DDb0, DBc0, DBc1, DDe0, DKa0, DYb0, DAlh0]
    refine awp_seqB (awp_blockI (awp_seqB ?_))
    refine awp_tcut (bl := []) T_tt 5 1 23 ?_
    simp (disch := omega) only [SX0, SX1, SX2, SX3, SX4, SX5, SX6, SX7, SX8, SU0, SY0, SY1, Nat.reduceAdd, Nat.reduceMul, Nat.reduceSub, Nat.reduceLeDiff, Nat.reduceEqDiff, Nat.reduceLT, Nat.reduceBEq, ↓reduceIte, Int.reduceLE, Int.reduceLT, Int.reduceToNat, Int.reduceNeg, reduceCtorEq, Int.reduceEq, SF0, SF1, SF2, DHb0, DHb1, DHa0, DCg0, DCe0, DCe1, DCe2, DDb0, DBc0, DBc1, DDe0, DKa0, DYb0, DAlh0, List.take_succ_cons, List.take_zero, List.drop_succ_cons, List.drop_zero, hH]
    have eN : ((H : Int) + 1).toNat = H + 1 := by omega
    refine req (by omega) ?_
    simp (disch := omega) only [SX0, SX1, SX2, SX3, SX4, SX5, SX6, SX7, SX8, SU0, SY0, SY1, Nat.reduceAdd, Nat.reduceMul, Nat.reduceSub, Nat.reduceLeDiff, Nat.reduceEqDiff, Nat.reduceLT, Nat.reduceBEq, ↓reduceIte, Int.reduceLE, Int.reduceLT, Int.reduceToNat, Int.reduceNeg, reduceCtorEq, Int.reduceEq, SF0, SF1, SF2, DHb0, DHb1, DHa0, DCg0, DCe0, DCe1, DCe2, DDb0, DBc0, DBc1, DDe0, DKa0, DYb0, DAlh0, eN]
    refine cutT (r := 2) (k := 1) (off := 0) (n := H + 1) rfl fun v hv1 => ?_
    simp (disch := omega) only [SX0, SX1, SX2, SX3, SX4, SX5, SX6, SX7, SX8, SU0, SY0, SY1, Nat.reduceAdd, Nat.reduceMul, Nat.reduceSub, Nat.reduceLeDiff, Nat.reduceEqDiff, Nat.reduceLT, Nat.reduceBEq, ↓reduceIte, Int.reduceLE, Int.reduceLT, Int.reduceToNat, Int.reduceNeg, reduceCtorEq, Int.reduceEq, SF0, SF1, SF2, DHb0, DHb1, DHa0, DCg0, DCe0, DCe1, DCe2, DDb0, DBc0, DBc1, DDe0, DKa0, DYb0, DAlh0, hv1]
    refine req ⟨by rw [tabR_len], by omega, by omega⟩ ?_
    simp (disch := omega) only [SX0, SX1, SX2, SX3, SX4, SX5, SX6, SX7, SX8, SU0, SY0, SY1, Nat.reduceAdd, Nat.reduceMul, Nat.reduceSub, Nat.reduceLeDiff, Nat.reduceEqDiff, Nat.reduceLT, Nat.reduceBEq, ↓reduceIte, Int.reduceLE, Int.reduceLT, Int.reduceToNat, Int.reduceNeg, reduceCtorEq, Int.reduceEq, SF0, SF1, SF2, DHb0, DHb1, DHa0, DCg0, DCe0, DCe1, DCe2, DDb0, DBc0, DBc1, DDe0, DKa0, DYb0, DAlh0]
    refine tieK (tabR k vs H w) (by simp) rfl ?_
    simp (disch := omega) only [SX0, SX1, SX2, SX3, SX4, SX5, SX6, SX7, SX8, SU0, SY0, SY1, Nat.reduceAdd, Nat.reduceMul, Nat.reduceSub, Nat.reduceLeDiff, Nat.reduceEqDiff, Nat.reduceLT, Nat.reduceBEq, ↓reduceIte, Int.reduceLE, Int.reduceLT, Int.reduceToNat, Int.reduceNeg, reduceCtorEq, Int.reduceEq, SF0, SF1, SF2, DHb0, DHb1, DHa0, DCg0, DCe0, DCe1, DCe2, DDb0, DBc0, DBc1, DDe0, DKa0, DYb0, DAlh0]
    have hr0 : List.replicate (H + 1) [AV.val (.int .i64 0)] = ints (rowD k vs H w 1) := by
      refine List.ext_getElem? fun j => ?_
      simp only [ints, rowD, List.getElem?_map, List.getElem?_replicate]
      by_cases hj : j < H + 1
      · rw [if_pos hj, List.getElem?_range hj]
        simp only [Option.map_some]
        by_cases hj0 : j < 1
        · rw [if_pos hj0, vt_zero (.inr (by omega))]
        · rw [if_neg hj0]
      · rw [if_neg hj, List.getElem?_eq_none (by simp; omega)]; rfl
    rw [hr0]
    have hlw := tabR_len k vs H w
    refine sx_sound (bl := []) T_tt _ _ _ ?_
    simp (disch := omega) only [SX0, SX1, SX2, SX3, SX4, SX5, SX6, SX7, SX8, SU0, SY0, SY1, Nat.reduceAdd, Nat.reduceMul, Nat.reduceSub, Nat.reduceLeDiff, Nat.reduceEqDiff, Nat.reduceLT, Nat.reduceBEq, ↓reduceIte, Int.reduceLE, Int.reduceLT, Int.reduceToNat, Int.reduceNeg, reduceCtorEq, Int.reduceEq, SF0, SF1, SF2, DHb0, DHb1, DHa0, DCg0, DCe0, DCe1, DCe2, DDb0, DBc0, DBc1, DDe0, DKa0, DYb0, DAlh0]
    with_reducible refine awp_loop_h (G := Nat) 8 94 (fun h => [(7, .val (.int .i64 h))]) (fun h => [.cells k.cs, .slab (tabR k vs H w ++ [.os 2 1 0 (H + 1)]), .vec 1 (ints (rowD k vs H w h))]) (fun h => 1 ≤ h ∧ h ≤ H + 1) (fun h => H + 1 - h) 1 ⟨by omega, by omega⟩ ?_ (fun h hj => ?_)
    · simp (disch := omega) only [SX0, SX1, SX2, SX3, SX4, SX5, SX6, SX7, SX8, SU0, SY0, SY1, Nat.reduceAdd, Nat.reduceMul, Nat.reduceSub, Nat.reduceLeDiff, Nat.reduceEqDiff, Nat.reduceLT, Nat.reduceBEq, ↓reduceIte, Int.reduceLE, Int.reduceLT, Int.reduceToNat, Int.reduceNeg, reduceCtorEq, Int.reduceEq, SF0, SF1, SF2, DHb0, DHb1, DHa0, DCg0, DCe0, DCe1, DCe2, DDb0, DBc0, DBc1, DDe0, DKa0, DYb0, DAlh0]
      have hu := tabR_under k vs H (H + 1) 3 (by omega) w
      (refine wk_le ?_ ?_ ?_; (focus (simp [W8, leTm, leAV, AV.under, underL, Work.under, hu, ints]; done)); (focus (simp [leL, OB.under, underL, AV.under, Work.under, hu, ints]; done)); (focus (simp; done)))
    refine sx_sound (bl := []) T_tt _ _ _ ?_
    simp (disch := omega) only [SX0, SX1, SX2, SX3, SX4, SX5, SX6, SX7, SX8, SU0, SY0, SY1, Nat.reduceAdd, Nat.reduceMul, Nat.reduceSub, Nat.reduceLeDiff, Nat.reduceEqDiff, Nat.reduceLT, Nat.reduceBEq, ↓reduceIte, Int.reduceLE, Int.reduceLT, Int.reduceToNat, Int.reduceNeg, reduceCtorEq, Int.reduceEq, SF0, SF1, SF2, DHb0, DHb1, DHa0, DCg0, DCe0, DCe1, DCe2, DDb0, DBc0, DBc1, DDe0, DKa0, DYb0, DAlh0, hH]
    have hrw : (tabR k vs H w ++ [AV.os 2 1 0 (H + 1)])[w]? = some (.os 2 1 0 (H + 1)) := by rw [List.getElem?_append_right (by omega), hlw, Nat.sub_self]; rfl
    have hrx : ∀ x, x < w → (tabR k vs H w ++ [AV.os 2 1 0 (H + 1)])[x]? = some (.sl (ints (rowD k vs H x (H + 1)))) := fun x hx => by
      rw [List.getElem?_append_left (by omega)]
      unfold tabR
      rw [List.getElem?_map, List.getElem?_range hx]; rfl
    refine br_dec (fun h2 => ?_) (fun h2 => ?_)
    · simp (disch := omega) only [SX0, SX1, SX2, SX3, SX4, SX5, SX6, SX7, SX8, SU0, SY0, SY1, Nat.reduceAdd, Nat.reduceMul, Nat.reduceSub, Nat.reduceLeDiff, Nat.reduceEqDiff, Nat.reduceLT, Nat.reduceBEq, ↓reduceIte, Int.reduceLE, Int.reduceLT, Int.reduceToNat, Int.reduceNeg, reduceCtorEq, Int.reduceEq, SF0, SF1, SF2, DHb0, DHb1, DHa0, DCg0, DCe0, DCe1, DCe2, DDb0, DBc0, DBc1, DDe0, DKa0, DYb0, DAlh0]
      refine br_dec (fun h3 => ?_) (fun h3 => ?_)
      · have hw1 : 1 ≤ w := by omega
        have hm := leafS_m hvb (k := k) (w := w) (h := h) vs.length (Nat.le_refl _)
        have hve := vt_eq (k := k) (vs := vs) (w := w) (h := h) hw1 hj.1
        have hbw : ∀ c, 1 ≤ c → c ≤ w / 2 → vt k vs c h + vt k vs (w - c) h ≤ 600000 := fun c c1 c2 => by
          have := vt_small (k := k) hvb (w := c) (h := h) (by omega) (by omega)
          have := vt_small (k := k) hvb (w := w - c) (h := h) (by omega) (by omega)
          omega
        have hbh : ∀ c, 1 ≤ c → c ≤ h / 2 → vt k vs w c + vt k vs w (h - c) ≤ 600000 := fun c c1 c2 => by
          have := vt_small (k := k) hvb (w := w) (h := c) (by omega) (by omega)
          have := vt_small (k := k) hvb (w := w) (h := h - c) (by omega) (by omega)
          omega
        have LV := leafValueX_c k vs w h (by omega) hk (by omega) (by omega)
        generalize (leafS k vs w h vs.length).m = m0 at *
        generalize (leafS k vs w h vs.length).plan = pl at *
        simp (disch := omega) only [SX0, SX1, SX2, SX3, SX4, SX5, SX6, SX7, SX8, SU0, SY0, SY1, Nat.reduceAdd, Nat.reduceMul, Nat.reduceSub, Nat.reduceLeDiff, Nat.reduceEqDiff, Nat.reduceLT, Nat.reduceBEq, ↓reduceIte, Int.reduceLE, Int.reduceLT, Int.reduceToNat, Int.reduceNeg, reduceCtorEq, Int.reduceEq, SF0, SF1, SF2, DHb0, DHb1, DHa0, DCg0, DCe0, DCe1, DCe2, DDb0, DBc0, DBc1, DDe0, DKa0, DYb0, DAlh0]
        refine acall_one LV (by simp [freeL, AV.free, Work.free]) (by simp [freeL, AV.free, Plan.free]) ?_
        have q2w : Int.tdiv (w : Int) 2 = ((w / 2 : Nat) : Int) := rfl
        have q2h : Int.tdiv (h : Int) 2 = ((h / 2 : Nat) : Int) := rfl
        have hu := tabR_under k vs H (H + 1) 3 (by omega) w
        simp (disch := omega) only [SX0, SX1, SX2, SX3, SX4, SX5, SX6, SX7, SX8, SU0, SY0, SY1, Nat.reduceAdd, Nat.reduceMul, Nat.reduceSub, Nat.reduceLeDiff, Nat.reduceEqDiff, Nat.reduceLT, Nat.reduceBEq, ↓reduceIte, Int.reduceLE, Int.reduceLT, Int.reduceToNat, Int.reduceNeg, reduceCtorEq, Int.reduceEq, SF0, SF1, SF2, DHb0, DHb1, DHa0, DCg0, DCe0, DCe1, DCe2, DDb0, DBc0, DBc1, DDe0, DKa0, DYb0, DAlh0]
        with_reducible refine awp_loop_h (G := Nat) 11 91 (fun c => [(8, .any), (9, .val (.int .i64 (maxTo (fun c => vt k vs c h + vt k vs (w - c) h) m0 (c - 1)))), (10, .val (.int .i64 c))]) (fun _ => [.cells k.cs, .slab (tabR k vs H w ++ [.os 2 1 0 (H + 1)]), .vec 1 (ints (rowD k vs H w h))]) (fun c => 1 ≤ c ∧ c ≤ w / 2 + 1) (fun c => w / 2 + 1 - c) 1 ⟨by omega, by omega⟩ ?_ (fun c hc => ?_)
        · simp (disch := omega) only [SX0, SX1, SX2, SX3, SX4, SX5, SX6, SX7, SX8, SU0, SY0, SY1, Nat.reduceAdd, Nat.reduceMul, Nat.reduceSub, Nat.reduceLeDiff, Nat.reduceEqDiff, Nat.reduceLT, Nat.reduceBEq, ↓reduceIte, Int.reduceLE, Int.reduceLT, Int.reduceToNat, Int.reduceNeg, reduceCtorEq, Int.reduceEq, SF0, SF1, SF2, DHb0, DHb1, DHa0, DCg0, DCe0, DCe1, DCe2, DDb0, DBc0, DBc1, DDe0, DKa0, DYb0, DAlh0]
          (refine wk_le ?_ ?_ ?_; (focus (simp [W8, leTm, leAV, AV.under, underL, Work.under, hu, ints, Plan.under, maxTo]; done)); (focus (simp [leL, OB.under, underL, AV.under, Work.under, hu, ints, Plan.under, maxTo]; done)); (focus (simp; done)))
        refine sx_sound (bl := []) T_tt _ _ _ ?_
        simp (disch := omega) only [SX0, SX1, SX2, SX3, SX4, SX5, SX6, SX7, SX8, SU0, SY0, SY1, Nat.reduceAdd, Nat.reduceMul, Nat.reduceSub, Nat.reduceLeDiff, Nat.reduceEqDiff, Nat.reduceLT, Nat.reduceBEq, ↓reduceIte, Int.reduceLE, Int.reduceLT, Int.reduceToNat, Int.reduceNeg, reduceCtorEq, Int.reduceEq, SF0, SF1, SF2, DHb0, DHb1, DHa0, DCg0, DCe0, DCe1, DCe2, DDb0, DBc0, DBc1, DDe0, DKa0, DYb0, DAlh0, q2w]
        refine br_dec (fun h4 => ?_) (fun h4 => ?_)
        · have e1 : (w : Int) - c = ((w - c : Nat) : Int) := by omega
          have t1 := hrx c (by omega)
          have t2 := hrx (w - c) (by omega)
          have u1 := rowD_get (k := k) (vs := vs) (H := H) (w := c) (h := H + 1) (b := h) (by omega) (by omega)
          have u2 := rowD_get (k := k) (vs := vs) (H := H) (w := w - c) (h := H + 1) (b := h) (by omega) (by omega)
          have s1 := vt_small (k := k) hvb (w := c) (h := h) (by omega) (by omega)
          have s2 := vt_small (k := k) hvb (w := w - c) (h := h) (by omega) (by omega)
          have nx := maxTo_next (g := fun c => vt k vs c h + vt k vs (w - c) h) (m := m0) hc.1
          simp (disch := omega) only [SX0, SX1, SX2, SX3, SX4, SX5, SX6, SX7, SX8, SU0, SY0, SY1, Nat.reduceAdd, Nat.reduceMul, Nat.reduceSub, Nat.reduceLeDiff, Nat.reduceEqDiff, Nat.reduceLT, Nat.reduceBEq, ↓reduceIte, Int.reduceLE, Int.reduceLT, Int.reduceToNat, Int.reduceNeg, reduceCtorEq, Int.reduceEq, SF0, SF1, SF2, DHb0, DHb1, DHa0, DCg0, DCe0, DCe1, DCe2, DDb0, DBc0, DBc1, DDe0, DKa0, DYb0, DAlh0]
          refine awp_drawA T_tt mixed (by decide +kernel) (by kernel_rfl) (by kernel_rfl) ?_
          repeat' first | simp (disch := omega) only [SX0, SX1, SX2, SX3, SX4, SX5, SX6, SX7, SX8, SU0, SY0, SY1, Nat.reduceAdd, Nat.reduceMul, Nat.reduceSub, Nat.reduceLeDiff, Nat.reduceEqDiff, Nat.reduceLT, Nat.reduceBEq, ↓reduceIte, Int.reduceLE, Int.reduceLT, Int.reduceToNat, Int.reduceNeg, reduceCtorEq, Int.reduceEq, SF0, SF1, SF2, DHb0, DHb1, DHa0, DCg0, DCe0, DCe1, DCe2, DDb0, DBc0, DBc1, DDe0, DKa0, DYb0, DAlh0, e1, t1, t2, u1, u2] | refine req (by omega) ?_
          refine ⟨c + 1, by omega, by omega, ?_⟩
          (refine wk_le ?_ ?_ ?_; (focus (simp [W8, leTm, leAV, AV.under, underL, Work.under, hu, ints, nx]; done)); (focus (simp [leL, OB.under, underL, AV.under, Work.under, hu, ints, nx]; done)); (focus (simp; done)))
        have hcw : c - 1 = w / 2 := by omega
        rw [hcw]
        have hb1 : maxTo (fun c => vt k vs c h + vt k vs (w - c) h) m0 (w / 2) ≤ 600000 := maxTo_bd (by omega) hbw
        have hb0 := maxTo_ge (g := fun c => vt k vs c h + vt k vs (w - c) h) (m := m0) (w / 2)
        generalize maxTo (fun c => vt k vs c h + vt k vs (w - c) h) m0 (w / 2) = m1 at *
        simp (disch := omega) only [SX0, SX1, SX2, SX3, SX4, SX5, SX6, SX7, SX8, SU0, SY0, SY1, Nat.reduceAdd, Nat.reduceMul, Nat.reduceSub, Nat.reduceLeDiff, Nat.reduceEqDiff, Nat.reduceLT, Nat.reduceBEq, ↓reduceIte, Int.reduceLE, Int.reduceLT, Int.reduceToNat, Int.reduceNeg, reduceCtorEq, Int.reduceEq, SF0, SF1, SF2, DHb0, DHb1, DHa0, DCg0, DCe0, DCe1, DCe2, DDb0, DBc0, DBc1, DDe0, DKa0, DYb0, DAlh0]
        with_reducible refine awp_loop_h (G := Nat) 12 90 (fun c => [(9, .val (.int .i64 (maxTo (fun c => vt k vs w c + vt k vs w (h - c)) m1 (c - 1)))), (10, .any), (11, .val (.int .i64 c))]) (fun _ => [.cells k.cs, .slab (tabR k vs H w ++ [.os 2 1 0 (H + 1)]), .vec 1 (ints (rowD k vs H w h))]) (fun c => 1 ≤ c ∧ c ≤ h / 2 + 1) (fun c => h / 2 + 1 - c) 1 ⟨by omega, by omega⟩ ?_ (fun c hc2 => ?_)
        · simp (disch := omega) only [SX0, SX1, SX2, SX3, SX4, SX5, SX6, SX7, SX8, SU0, SY0, SY1, Nat.reduceAdd, Nat.reduceMul, Nat.reduceSub, Nat.reduceLeDiff, Nat.reduceEqDiff, Nat.reduceLT, Nat.reduceBEq, ↓reduceIte, Int.reduceLE, Int.reduceLT, Int.reduceToNat, Int.reduceNeg, reduceCtorEq, Int.reduceEq, SF0, SF1, SF2, DHb0, DHb1, DHa0, DCg0, DCe0, DCe1, DCe2, DDb0, DBc0, DBc1, DDe0, DKa0, DYb0, DAlh0]
          (refine wk_le ?_ ?_ ?_; (focus (simp [W8, leTm, leAV, AV.under, underL, Work.under, hu, ints, maxTo]; done)); (focus (simp [leL, OB.under, underL, AV.under, Work.under, hu, ints, maxTo]; done)); (focus (simp; done)))
        refine sx_sound (bl := []) T_tt _ _ _ ?_
        simp (disch := omega) only [SX0, SX1, SX2, SX3, SX4, SX5, SX6, SX7, SX8, SU0, SY0, SY1, Nat.reduceAdd, Nat.reduceMul, Nat.reduceSub, Nat.reduceLeDiff, Nat.reduceEqDiff, Nat.reduceLT, Nat.reduceBEq, ↓reduceIte, Int.reduceLE, Int.reduceLT, Int.reduceToNat, Int.reduceNeg, reduceCtorEq, Int.reduceEq, SF0, SF1, SF2, DHb0, DHb1, DHa0, DCg0, DCe0, DCe1, DCe2, DDb0, DBc0, DBc1, DDe0, DKa0, DYb0, DAlh0, q2h]
        refine br_dec (fun h4 => ?_) (fun h4 => ?_)
        · have e1 : (h : Int) - c = ((h - c : Nat) : Int) := by omega
          have u1 := rowD_get (k := k) (vs := vs) (H := H) (w := w) (h := h) (b := c) (by omega) (by omega)
          have u2 := rowD_get (k := k) (vs := vs) (H := H) (w := w) (h := h) (b := h - c) (by omega) (by omega)
          have s1 := vt_small (k := k) hvb (w := w) (h := c) (by omega) (by omega)
          have s2 := vt_small (k := k) hvb (w := w) (h := h - c) (by omega) (by omega)
          have nx := maxTo_next (g := fun c => vt k vs w c + vt k vs w (h - c)) (m := m1) hc2.1
          simp (disch := omega) only [SX0, SX1, SX2, SX3, SX4, SX5, SX6, SX7, SX8, SU0, SY0, SY1, Nat.reduceAdd, Nat.reduceMul, Nat.reduceSub, Nat.reduceLeDiff, Nat.reduceEqDiff, Nat.reduceLT, Nat.reduceBEq, ↓reduceIte, Int.reduceLE, Int.reduceLT, Int.reduceToNat, Int.reduceNeg, reduceCtorEq, Int.reduceEq, SF0, SF1, SF2, DHb0, DHb1, DHa0, DCg0, DCe0, DCe1, DCe2, DDb0, DBc0, DBc1, DDe0, DKa0, DYb0, DAlh0]
          refine awp_drawA T_tt mixed (by decide +kernel) (by kernel_rfl) (by kernel_rfl) ?_
          repeat' first | simp (disch := omega) only [SX0, SX1, SX2, SX3, SX4, SX5, SX6, SX7, SX8, SU0, SY0, SY1, Nat.reduceAdd, Nat.reduceMul, Nat.reduceSub, Nat.reduceLeDiff, Nat.reduceEqDiff, Nat.reduceLT, Nat.reduceBEq, ↓reduceIte, Int.reduceLE, Int.reduceLT, Int.reduceToNat, Int.reduceNeg, reduceCtorEq, Int.reduceEq, SF0, SF1, SF2, DHb0, DHb1, DHa0, DCg0, DCe0, DCe1, DCe2, DDb0, DBc0, DBc1, DDe0, DKa0, DYb0, DAlh0, e1, hrw, u1, u2] | refine req (by omega) ?_
          refine ⟨c + 1, by omega, by omega, ?_⟩
          (refine wk_le ?_ ?_ ?_; (focus (simp [W8, leTm, leAV, AV.under, underL, Work.under, hu, ints, nx]; done)); (focus (simp [leL, OB.under, underL, AV.under, Work.under, hu, ints, nx]; done)); (focus (simp; done)))
        have hch : c - 1 = h / 2 := by omega
        rw [hch, ← hve]
        have hp := rowD_put (k := k) (vs := vs) (H := H) (w := w) (h := h) (by omega)
        have u0 := rowD_next (k := k) (vs := vs) (H := H) (w := w) (h := h) (by omega)
        have hp' : (ints (rowD k vs H w h)).set h [.val (.int .i64 (vt k vs w h))] = ints (rowD k vs H w (h + 1)) := by rw [← hp]; simp [ints, List.map_set]
        simp only [ints] at hp'
        simp (disch := omega) only [SX0, SX1, SX2, SX3, SX4, SX5, SX6, SX7, SX8, SU0, SY0, SY1, Nat.reduceAdd, Nat.reduceMul, Nat.reduceSub, Nat.reduceLeDiff, Nat.reduceEqDiff, Nat.reduceLT, Nat.reduceBEq, ↓reduceIte, Int.reduceLE, Int.reduceLT, Int.reduceToNat, Int.reduceNeg, reduceCtorEq, Int.reduceEq, SF0, SF1, SF2, DHb0, DHb1, DHa0, DCg0, DCe0, DCe1, DCe2, DDb0, DBc0, DBc1, DDe0, DKa0, DYb0, DAlh0]
        repeat' first | simp (disch := omega) only [SX0, SX1, SX2, SX3, SX4, SX5, SX6, SX7, SX8, SU0, SY0, SY1, Nat.reduceAdd, Nat.reduceMul, Nat.reduceSub, Nat.reduceLeDiff, Nat.reduceEqDiff, Nat.reduceLT, Nat.reduceBEq, ↓reduceIte, Int.reduceLE, Int.reduceLT, Int.reduceToNat, Int.reduceNeg, reduceCtorEq, Int.reduceEq, SF0, SF1, SF2, DHb0, DHb1, DHa0, DCg0, DCe0, DCe1, DCe2, DDb0, DBc0, DBc1, DDe0, DKa0, DYb0, DAlh0, hrw, u0] | refine req (by omega) ?_
        refine ⟨h + 1, ⟨by omega, by omega⟩, by omega, ?_⟩
        (refine wk_le ?_ ?_ ?_; (focus (simp [W8, leTm, leAV, AV.under, underL, Work.under, hu, ints, hp']; done)); (focus (simp [leL, OB.under, underL, AV.under, Work.under, hu, ints, hp']; done)); (focus (simp; done)))
      · have hw0 : w = 0 := by omega
        subst hw0
        simp (disch := omega) only [SX0, SX1, SX2, SX3, SX4, SX5, SX6, SX7, SX8, SU0, SY0, SY1, Nat.reduceAdd, Nat.reduceMul, Nat.reduceSub, Nat.reduceLeDiff, Nat.reduceEqDiff, Nat.reduceLT, Nat.reduceBEq, ↓reduceIte, Int.reduceLE, Int.reduceLT, Int.reduceToNat, Int.reduceNeg, reduceCtorEq, Int.reduceEq, SF0, SF1, SF2, DHb0, DHb1, DHa0, DCg0, DCe0, DCe1, DCe2, DDb0, DBc0, DBc1, DDe0, DKa0, DYb0, DAlh0]
        (refine awp_wk (wk_frz (r := 2) (k := 1) (es := ints (rowD k vs H 0 h)) rfl (by simp)) ?_; simp only [AS.frz, W8_map, List.map_cons, List.map_nil, AV.frz, OB.frz, frzL, if_true, if_false, Nat.reduceEqDiff, Nat.zero_add, true_and, List.length_map, List.drop_zero, List.set_cons_succ, List.set_cons_zero, Work.frzm, Plan.frzm, Nat.le_refl, ])
        refine awp_wk (wk_unslab (r := 1) (cs := tabR k vs H (0 + 1)) (by rw [tabR_frz (by omega)]; rfl) (tabR_pure k vs H (0 + 1))) ?_
        simp only [Work.frzLE, List.set_cons_succ, List.set_cons_zero]
        refine sx_sound (bl := []) T_tt _ _ _ ?_
        simp (disch := omega) only [SX0, SX1, SX2, SX3, SX4, SX5, SX6, SX7, SX8, SU0, SY0, SY1, Nat.reduceAdd, Nat.reduceMul, Nat.reduceSub, Nat.reduceLeDiff, Nat.reduceEqDiff, Nat.reduceLT, Nat.reduceBEq, ↓reduceIte, Int.reduceLE, Int.reduceLT, Int.reduceToNat, Int.reduceNeg, reduceCtorEq, Int.reduceEq, SF0, SF1, SF2, DHb0, DHb1, DHa0, DCg0, DCe0, DCe1, DCe2, DDb0, DBc0, DBc1, DDe0, DKa0, DYb0, DAlh0]
        refine ⟨0 + 1, by omega, by omega, ?_⟩
        (refine wk_le ?_ ?_ ?_; (focus (simp [W8, leTm, leAV, AV.under, underL, Work.under]; done)); (focus (simp [leL, OB.under, underL, AV.under, Work.under]; done)); (focus (simp; done)))
    · have hh1 : h = H + 1 := by omega
      subst hh1
      simp (disch := omega) only [SX0, SX1, SX2, SX3, SX4, SX5, SX6, SX7, SX8, SU0, SY0, SY1, Nat.reduceAdd, Nat.reduceMul, Nat.reduceSub, Nat.reduceLeDiff, Nat.reduceEqDiff, Nat.reduceLT, Nat.reduceBEq, ↓reduceIte, Int.reduceLE, Int.reduceLT, Int.reduceToNat, Int.reduceNeg, reduceCtorEq, Int.reduceEq, SF0, SF1, SF2, DHb0, DHb1, DHa0, DCg0, DCe0, DCe1, DCe2, DDb0, DBc0, DBc1, DDe0, DKa0, DYb0, DAlh0]
      (refine awp_wk (wk_frz (r := 2) (k := 1) (es := ints (rowD k vs H w (H + 1))) rfl (by simp)) ?_; simp only [AS.frz, W8_map, List.map_cons, List.map_nil, AV.frz, OB.frz, frzL, if_true, if_false, Nat.reduceEqDiff, Nat.zero_add, true_and, List.length_map, List.drop_zero, List.set_cons_succ, List.set_cons_zero, Work.frzm, Plan.frzm, Nat.le_refl, ])
      refine awp_wk (wk_unslab (r := 1) (cs := tabR k vs H (w + 1)) (by rw [tabR_frz (by omega)]; rfl) (tabR_pure k vs H (w + 1))) ?_
      simp only [Work.frzLE, List.set_cons_succ, List.set_cons_zero]
      refine sx_sound (bl := []) T_tt _ _ _ ?_
      simp (disch := omega) only [SX0, SX1, SX2, SX3, SX4, SX5, SX6, SX7, SX8, SU0, SY0, SY1, Nat.reduceAdd, Nat.reduceMul, Nat.reduceSub, Nat.reduceLeDiff, Nat.reduceEqDiff, Nat.reduceLT, Nat.reduceBEq, ↓reduceIte, Int.reduceLE, Int.reduceLT, Int.reduceToNat, Int.reduceNeg, reduceCtorEq, Int.reduceEq, SF0, SF1, SF2, DHb0, DHb1, DHa0, DCg0, DCe0, DCe1, DCe2, DDb0, DBc0, DBc1, DDe0, DKa0, DYb0, DAlh0]
      refine ⟨w + 1, by omega, by omega, ?_⟩
      (refine wk_le ?_ ?_ ?_; (focus (simp [W8, leTm, leAV, AV.under, underL, Work.under]; done)); (focus (simp [leL, OB.under, underL, AV.under, Work.under]; done)); (focus (simp; done)))
  · have e : w = W + 1 := by omega
    subst e
    simp (disch := omega) only [SX0, SX1, SX2, SX3, SX4, SX5, SX6, SX7, SX8, SU0, SY0, SY1, Nat.reduceAdd, Nat.reduceMul, Nat.reduceSub, Nat.reduceLeDiff, Nat.reduceEqDiff, Nat.reduceLT, Nat.reduceBEq, ↓reduceIte, Int.reduceLE, Int.reduceLT, Int.reduceToNat, Int.reduceNeg, reduceCtorEq, Int.reduceEq, SF0, SF1, SF2, DHb0, DHb1, DHa0, DCg0, DCe0, DCe1, DCe2, DDb0, DBc0, DBc1, DDe0, DKa0, DYb0, DAlh0]
    exact fin_row rfl (by simp [tabR_len]) ⟨rfl, rfl⟩

end Go.Pc
