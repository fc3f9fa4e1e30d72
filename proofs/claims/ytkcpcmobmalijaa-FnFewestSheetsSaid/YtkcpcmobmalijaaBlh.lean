/- What sets of panes can be cut: the reference's look at two parts. -/
import Derived.Test.YtkcpcmobmalijaaBlg
import Derived.Test.YtkcpcmobmalijaaAlr
set_option linter.unusedSimpArgs false
set_option linter.unusedVariables false
namespace Go.Pc
open Go Go.Proofs

theorem idx_lt {w h W D : Nat} (hw : w ≤ W) (hh : h < D) : w * D + h < (W + 1) * D := by
  have h1 : (w + 1) * D ≤ (W + 1) * D := Nat.mul_le_mul_right D (by omega)
  rw [Nat.add_mul] at h1
  omega
theorem idx_div {w h D : Nat} (hh : h < D) : (w * D + h) / D = w := by
  rw [Nat.mul_comm, Nat.mul_add_div (by omega), Nat.div_eq_of_lt hh, Nat.add_zero]
theorem idx_mod {w h D : Nat} (hh : h < D) : (w * D + h) % D = h := by
  rw [Nat.mul_comm, Nat.mul_add_mod, Nat.mod_eq_of_lt hh]
def rowC (g : Nat → Nat → Bool) (W D : Nat) : List (List AV) := (List.range ((W + 1) * D)).map fun j => [.val (.bool (g (j / D) (j % D)))]
theorem rowC_len (g : Nat → Nat → Bool) (W D : Nat) : (rowC g W D).length = (W + 1) * D := by simp [rowC]
theorem rowC_get {g : Nat → Nat → Bool} {W D w h : Nat} (hw : w ≤ W) (hh : h < D) : (rowC g W D)[w * D + h]? = some [.val (.bool (g w h))] := by
  simp only [rowC, List.getElem?_map, List.getElem?_range (idx_lt hw hh), Option.map_some, idx_div hh, idx_mod hh]
def updR (g : Nat → Nat → Bool) (w h : Nat) (m : Bool) (a b : Nat) : Bool := if a = w ∧ b = h then m else g a b
theorem rowC_set {g : Nat → Nat → Bool} {W D w h : Nat} (hw : w ≤ W) (hh : h < D) (m : Bool) : (rowC g W D).set (w * D + h) [.val (.bool m)] = rowC (updR g w h m) W D := by
  refine List.ext_getElem? fun i => ?_
  rw [List.getElem?_set]
  simp only [rowC, List.length_map, List.length_range, List.getElem?_map]
  by_cases hi : i < (W + 1) * D
  · rw [List.getElem?_range hi, Option.map_some, Option.map_some]
    by_cases e : w * D + h = i
    · subst e
      rw [if_pos rfl, if_pos hi, idx_div hh, idx_mod hh]
      simp [updR]
    · rw [if_neg e]
      have : ¬ (i / D = w ∧ i % D = h) := fun ⟨a, b⟩ => e (by rw [← a, ← b, Nat.mul_comm]; exact Nat.div_add_mod i D)
      simp only [updR, if_neg this]
  · rw [if_neg (by have := idx_lt hw hh; omega), List.getElem?_eq_none (by simp; omega)]; rfl
theorem rowC_zero (W D : Nat) : List.replicate ((W + 1) * D) [AV.val (.bool false)] = rowC (fun _ _ => false) W D := by
  apply List.ext_getElem <;> simp [rowC]
theorem rowC_congr {g g' : Nat → Nat → Bool} {W D : Nat} (hD : 0 < D) (h : ∀ w h, w ≤ W → h < D → g w h = g' w h) : rowC g W D = rowC g' W D := by
  unfold rowC
  refine List.map_congr_left fun j hj => ?_
  have hj := List.mem_range.1 hj
  rw [h _ _ (by have := (Nat.div_lt_iff_lt_mul hD).2 hj; omega) (Nat.mod_lt _ hD)]
noncomputable def tabC (k : Work) (S W D : Nat) : List AV := (List.range S).map fun s => .sl (rowC (cutB k s) W D)
theorem tabC_len (k : Work) (S W D : Nat) : (tabC k S W D).length = S := by simp [tabC]
theorem tabC_get {k : Work} {S W D a : Nat} (h : a < S) (x : AV) : (tabC k S W D ++ [x])[a]? = some (.sl (rowC (cutB k a) W D)) := by
  rw [List.getElem?_append_left (by rw [tabC_len]; exact h)]
  unfold tabC
  rw [List.getElem?_map, List.getElem?_range h]; rfl
theorem tabC_free (k : Work) (S W D : Nat) : freeL (tabC k S W D) = true := by
  unfold tabC
  generalize List.range S = l
  induction l with
  | nil => rfl
  | cons x l ih => simp only [List.map_cons, freeL, ih, AV.free]; rfl
theorem tabC_pure (k : Work) (S W D : Nat) : (tabC k S W D).all AV.pure = true := by
  unfold tabC
  rw [List.all_eq_true]
  intro x hx
  obtain ⟨a, _, rfl⟩ := List.mem_map.1 hx
  rfl
theorem tabC_under {m : Nat} (k : Work) (S W D : Nat) {x : AV} (hx : x.under m = true) : underL m (tabC k S W D ++ [x]) = true := by
  unfold tabC
  generalize List.range S = l
  induction l with
  | nil => simp [underL, hx]
  | cons y l ih => simp only [List.map_cons, List.cons_append, underL, ih, AV.under, Bool.and_self]
theorem idx_int (w h D : Nat) : (w : Int) * (D : Int) = ((w * D : Nat) : Int) := (Int.natCast_mul ..).symm
theorem tabC_ren (k : Work) (S W D : Nat) (f : Nat → Nat) : List.map (AV.ren f) (tabC k S W D) = tabC k S W D := by rw [← renL_map]; exact freeL_rend f (tabC_free k S W D)

theorem e_twoSetsS : Enters Try.prog 158 := enters_of Try.func158 (by kernel_rfl) (by kernel_rfl)
set_option maxRecDepth 16000 in
set_option maxHeartbeats 8000000 in
theorem twoSetsS_c (k : Work) (g : Nat → Nat → Bool) (S w h W D : Nat) (hW : W ≤ 16) (hD : D ≤ 17) (hkH : k.H + 1 = D) (hS : S < 16) (hw : 1 ≤ w ∧ w ≤ W) (hh : 1 ≤ h ∧ h < D) : ACalls Try.prog 158 [.agg k.cs, .os 0 1 0 (S + 1), .val (.int .i64 S), .val (.int .i64 w), .val (.int .i64 h)] [.slab (tabC k S W D ++ [.os 1 1 0 ((W + 1) * D)]), .vec 1 (rowC g W D)] [0, 1] (fun r L => r = .val (.bool (partsB k S w h)) ∧ L = [.slab (tabC k S W D ++ [.os 1 1 0 ((W + 1) * D)]), .vec 1 (rowC g W D)]) := by
  refine acalls_tm T_tt Try.func158 rfl e_twoSetsS 88 rfl (W8 _ _ _ _ _ .any .any .any (W8 .any .any .any .any .any .any .any .any (W8 .any .any .any .any .any .any .any .any (W8 .any .any .any .any .any .any .any .any (W8 .any .any .any .any .any .any .any .any (W8 .any .any .any .any .any .any .any .any (W8 .any .any .any .any .any .any .any .any (W8 .any .any .any .any .any .any .any .any (W8 .any .any .any .any .any .any .any .any (W8 .any .any .any .any .any .any .any .any (W8 .any .any .any .any .any .any .any .any [.any, .any, .any, .any, .any]))))))))))) rfl (rv := [.tmp 10]) rfl (sx_sound (bl := []) T_tt _ _ _ ?_)
  repeat' first | simp (disch := omega) only [SX0, SX1, SX2, SX3, SX4, SX5, SX6, SX7, SX8, SU0, SY0, SY1, Nat.reduceAdd, Nat.reduceMul, Nat.reduceSub, Nat.reduceLeDiff, Nat.reduceEqDiff, Nat.reduceLT, Nat.reduceBEq, ↓reduceIte, Int.reduceLE, Int.reduceLT, Int.reduceToNat, Int.reduceNeg, reduceCtorEq, Int.reduceEq, SF0, SF1, SF2, DBka0, DAlh0, DHb0, DHb1, DHa0, DCg0, DCe0, DCe1, DCe2, DDb0, DBc0, DBc1, DDe0, DAlv0, DBla0, hkH] | refine req (by omega) ?_ | fail
  have fin : ∀ (st : AS) (b : Bool), (b = true ↔ parts k S w h) → st.L = [.slab (tabC k S W D ++ [.os 1 1 0 ((W + 1) * D)]), .vec 1 (rowC g W D), .cells k.cs] → Fin [0, 1] 2 (fun r L => r = .val (.bool (partsB k S w h)) ∧ L = [.slab (tabC k S W D ++ [.os 1 1 0 ((W + 1) * D)]), .vec 1 (rowC g W D)]) st (.val (.bool b)) := fun st b hb hL => by
    have e : partsB k S w h = b := by
      cases hp : partsB k S w h <;> cases b <;> first | rfl | (exfalso; rw [← Bool.not_eq_true, partsB_iff] at hp; exact hp (hb.1 rfl)) | (exfalso; have := hb.2 (partsB_iff.1 hp); cases this)
    rw [e]
    exact fin_ks [0, 1] (.val (.bool b)) [.slab (tabC k S W D ++ [.os 1 1 0 ((W + 1) * D)]), .vec 1 (rowC g W D)] ⟨rfl, rfl⟩ (by simp [AV.ren]) (by simp [hL, keepL, nameK, OB.ren, AV.ren, tabC_ren]) (by simp) (by simp) (by simp)
  have hDle : ∀ x, x ≤ 16 → x * D ≤ 16 * 17 := fun x hx => Nat.mul_le_mul hx hD
  have hMl : ∀ x y, x ≤ W → y < D → x * D + y < (W + 1) * D := fun x y a b => idx_lt a b
  have u1 : ∀ m, underL (m + 2) (tabC k S W D ++ [.os 1 1 0 ((W + 1) * D)]) = true := fun m => tabC_under k S W D (by simp [AV.under])
  have lt := tabC_len k S W D
  with_reducible refine awp_loop_h (G := Nat) 13 80 (fun a => [(12, .val (.int .i64 a))]) (fun _ => [.slab (tabC k S W D ++ [.os 1 1 0 ((W + 1) * D)]), .vec 1 (rowC g W D), .cells k.cs]) (fun a => 1 ≤ a ∧ (a ≤ S ∨ a = 1) ∧ ∀ a', sub a' S → 0 < a' → a' < a → a' < S → ¬ partA k S w h a') (fun a => S + 1 - a) 1 ⟨Nat.le_refl _, .inr rfl, fun a' _ p q => by omega⟩ ?_ (fun a ha => ?_)
  · simp (disch := omega) only [SX0, SX1, SX2, SX3, SX4, SX5, SX6, SX7, SX8, SU0, SY0, SY1, Nat.reduceAdd, Nat.reduceMul, Nat.reduceSub, Nat.reduceLeDiff, Nat.reduceEqDiff, Nat.reduceLT, Nat.reduceBEq, ↓reduceIte, Int.reduceLE, Int.reduceLT, Int.reduceToNat, Int.reduceNeg, reduceCtorEq, Int.reduceEq, SF0, SF1, SF2, DBka0, DAlh0, DHb0, DHb1, DHa0, DCg0, DCe0, DCe1, DCe2, DDb0, DBc0, DBc1, DDe0, DAlv0, DBla0]
    (refine wk_le ?_ ?_ ?_; (focus (simp [W8, leTm, leAV, AV.under, underL, Work.under, u1]; done)); (focus (simp [leL, OB.under, underL, AV.under, Work.under, u1]; done)); (focus (simp; done)))
  obtain ⟨ha1, ha2, ha3⟩ := ha
  refine sx_sound (bl := []) T_tt _ _ _ ?_
  simp (disch := omega) only [SX0, SX1, SX2, SX3, SX4, SX5, SX6, SX7, SX8, SU0, SY0, SY1, Nat.reduceAdd, Nat.reduceMul, Nat.reduceSub, Nat.reduceLeDiff, Nat.reduceEqDiff, Nat.reduceLT, Nat.reduceBEq, ↓reduceIte, Int.reduceLE, Int.reduceLT, Int.reduceToNat, Int.reduceNeg, reduceCtorEq, Int.reduceEq, SF0, SF1, SF2, DBka0, DAlh0, DHb0, DHb1, DHa0, DCg0, DCe0, DCe1, DCe2, DDb0, DBc0, DBc1, DDe0, DAlv0, DBla0]
  refine br_dec (fun h1 => ?_) (fun h1 => ?_)
  · have haS : a < S := by omega
    have next : ¬ (sub a S ∧ partA k S w h a) → ∀ a', sub a' S → 0 < a' → a' < a + 1 → a' < S → ¬ partA k S w h a' := fun hn a' p1 p2 p3 p4 p5 => by
      by_cases e : a' = a
      · subst e; exact hn ⟨p1, p5⟩
      · exact ha3 a' p1 p2 (by omega) p4 p5
    simp (disch := omega) only [SX0, SX1, SX2, SX3, SX4, SX5, SX6, SX7, SX8, SU0, SY0, SY1, Nat.reduceAdd, Nat.reduceMul, Nat.reduceSub, Nat.reduceLeDiff, Nat.reduceEqDiff, Nat.reduceLT, Nat.reduceBEq, ↓reduceIte, Int.reduceLE, Int.reduceLT, Int.reduceToNat, Int.reduceNeg, reduceCtorEq, Int.reduceEq, SF0, SF1, SF2, DBka0, DAlh0, DHb0, DHb1, DHa0, DCg0, DCe0, DCe1, DCe2, DDb0, DBc0, DBc1, DDe0, DAlv0, DBla0]
    refine acall_one (insideS_c a S (by omega) (by omega)) rfl rfl ?_
    by_cases hsb : sub a S
    · rw [decide_eq_true hsb]
      have hSa := sub_le hsb
      have r1 := tabC_get (k := k) (S := S) (W := W) (D := D) haS (.os 1 1 0 ((W + 1) * D))
      have r2 := tabC_get (k := k) (S := S) (W := W) (D := D) (a := S - a) (by omega) (.os 1 1 0 ((W + 1) * D))
      have eSa : (S : Int) - a = ((S - a : Nat) : Int) := by omega
      simp (disch := omega) only [SX0, SX1, SX2, SX3, SX4, SX5, SX6, SX7, SX8, SU0, SY0, SY1, Nat.reduceAdd, Nat.reduceMul, Nat.reduceSub, Nat.reduceLeDiff, Nat.reduceEqDiff, Nat.reduceLT, Nat.reduceBEq, ↓reduceIte, Int.reduceLE, Int.reduceLT, Int.reduceToNat, Int.reduceNeg, reduceCtorEq, Int.reduceEq, SF0, SF1, SF2, DBka0, DAlh0, DHb0, DHb1, DHa0, DCg0, DCe0, DCe1, DCe2, DDb0, DBc0, DBc1, DDe0, DAlv0, DBla0]
      with_reducible refine awp_loop_h (G := Nat) 14 79 (fun x => [(13, .val (.int .i64 x))]) (fun _ => [.slab (tabC k S W D ++ [.os 1 1 0 ((W + 1) * D)]), .vec 1 (rowC g W D), .cells k.cs]) (fun x => (1 ≤ x ∧ x ≤ w) ∧ ∀ x', 1 ≤ x' → x' < x → ¬ (Cut k a x' h ∧ Cut k (S - a) (w - x') h)) (fun x => w - x) 1 ⟨⟨Nat.le_refl _, by omega⟩, fun x' a b => absurd a (by omega)⟩ ?_ (fun x hx => ?_)
      · simp (disch := omega) only [SX0, SX1, SX2, SX3, SX4, SX5, SX6, SX7, SX8, SU0, SY0, SY1, Nat.reduceAdd, Nat.reduceMul, Nat.reduceSub, Nat.reduceLeDiff, Nat.reduceEqDiff, Nat.reduceLT, Nat.reduceBEq, ↓reduceIte, Int.reduceLE, Int.reduceLT, Int.reduceToNat, Int.reduceNeg, reduceCtorEq, Int.reduceEq, SF0, SF1, SF2, DBka0, DAlh0, DHb0, DHb1, DHa0, DCg0, DCe0, DCe1, DCe2, DDb0, DBc0, DBc1, DDe0, DAlv0, DBla0]
        (refine wk_le ?_ ?_ ?_; (focus (simp [W8, leTm, leAV, AV.under, underL, Work.under, u1]; done)); (focus (simp [leL, OB.under, underL, AV.under, Work.under, u1]; done)); (focus (simp; done)))
      obtain ⟨hx1, hx2⟩ := hx
      refine sx_sound (bl := []) T_tt _ _ _ ?_
      simp (disch := omega) only [SX0, SX1, SX2, SX3, SX4, SX5, SX6, SX7, SX8, SU0, SY0, SY1, Nat.reduceAdd, Nat.reduceMul, Nat.reduceSub, Nat.reduceLeDiff, Nat.reduceEqDiff, Nat.reduceLT, Nat.reduceBEq, ↓reduceIte, Int.reduceLE, Int.reduceLT, Int.reduceToNat, Int.reduceNeg, reduceCtorEq, Int.reduceEq, SF0, SF1, SF2, DBka0, DAlh0, DHb0, DHb1, DHa0, DCg0, DCe0, DCe1, DCe2, DDb0, DBc0, DBc1, DDe0, DAlv0, DBla0]
      refine br_dec (fun h2 => ?_) (fun h2 => ?_)
      · have t1 := rowC_get (g := cutB k a) (W := W) (D := D) (w := x) (h := h) (by omega) (by omega)
        have t2 := rowC_get (g := cutB k (S - a)) (W := W) (D := D) (w := w - x) (h := h) (by omega) (by omega)
        have m1 := hDle x (by omega)
        have m2 := hDle (w - x) (by omega)
        have n1 := hMl x h (by omega) (by omega)
        have n2 := hMl (w - x) h (by omega) (by omega)
        have ex : (w : Int) - x = ((w - x : Nat) : Int) := by omega
        have i1 := idx_int x h D
        have i2 := idx_int (w - x) h D
        have l1 := rowC_len (cutB k a) W D
        have l2 := rowC_len (cutB k (S - a)) W D
        have j1 : ((x * D : Nat) : Int) + (h : Int) = ((x * D + h : Nat) : Int) := by omega
        have j2 : (((w - x) * D : Nat) : Int) + (h : Int) = (((w - x) * D + h : Nat) : Int) := by omega
        repeat' first | simp (disch := omega) only [SX0, SX1, SX2, SX3, SX4, SX5, SX6, SX7, SX8, SU0, SY0, SY1, Nat.reduceAdd, Nat.reduceMul, Nat.reduceSub, Nat.reduceLeDiff, Nat.reduceEqDiff, Nat.reduceLT, Nat.reduceBEq, ↓reduceIte, Int.reduceLE, Int.reduceLT, Int.reduceToNat, Int.reduceNeg, reduceCtorEq, Int.reduceEq, SF0, SF1, SF2, DBka0, DAlh0, DHb0, DHb1, DHa0, DCg0, DCe0, DCe1, DCe2, DDb0, DBc0, DBc1, DDe0, DAlv0, DBla0, r1, r2, t1, t2, ex, eSa, i1, i2, j1, j2, l1, l2] | refine req (by omega) ?_ | fail
        have nextx : ¬ (Cut k a x h ∧ Cut k (S - a) (w - x) h) → ∀ x', 1 ≤ x' → x' < x + 1 → ¬ (Cut k a x' h ∧ Cut k (S - a) (w - x') h) := fun hn x' q1 q2 => by
          by_cases e : x' = x
          · subst e; exact hn
          · exact hx2 x' q1 (by omega)
        refine br_bool (fun c1 => ?_) (fun c1 => ?_)
        · repeat' first | simp (disch := omega) only [SX0, SX1, SX2, SX3, SX4, SX5, SX6, SX7, SX8, SU0, SY0, SY1, Nat.reduceAdd, Nat.reduceMul, Nat.reduceSub, Nat.reduceLeDiff, Nat.reduceEqDiff, Nat.reduceLT, Nat.reduceBEq, ↓reduceIte, Int.reduceLE, Int.reduceLT, Int.reduceToNat, Int.reduceNeg, reduceCtorEq, Int.reduceEq, SF0, SF1, SF2, DBka0, DAlh0, DHb0, DHb1, DHa0, DCg0, DCe0, DCe1, DCe2, DDb0, DBc0, DBc1, DDe0, DAlv0, DBla0, r1, r2, t1, t2, ex, eSa, i1, i2, j1, j2, l1, l2] | refine req (by omega) ?_ | fail
          refine br_bool (fun c2 => ?_) (fun c2 => ?_)
          · repeat' first | simp (disch := omega) only [SX0, SX1, SX2, SX3, SX4, SX5, SX6, SX7, SX8, SU0, SY0, SY1, Nat.reduceAdd, Nat.reduceMul, Nat.reduceSub, Nat.reduceLeDiff, Nat.reduceEqDiff, Nat.reduceLT, Nat.reduceBEq, ↓reduceIte, Int.reduceLE, Int.reduceLT, Int.reduceToNat, Int.reduceNeg, reduceCtorEq, Int.reduceEq, SF0, SF1, SF2, DBka0, DAlh0, DHb0, DHb1, DHa0, DCg0, DCe0, DCe1, DCe2, DDb0, DBc0, DBc1, DDe0, DAlv0, DBla0] | fail
            exact fin _ true ⟨fun _ => ⟨a, hsb, by omega, haS, .inl ⟨x, by omega, by omega, cutB_iff.1 c1, cutB_iff.1 c2⟩⟩, fun _ => rfl⟩ rfl
          · repeat' first | simp (disch := omega) only [SX0, SX1, SX2, SX3, SX4, SX5, SX6, SX7, SX8, SU0, SY0, SY1, Nat.reduceAdd, Nat.reduceMul, Nat.reduceSub, Nat.reduceLeDiff, Nat.reduceEqDiff, Nat.reduceLT, Nat.reduceBEq, ↓reduceIte, Int.reduceLE, Int.reduceLT, Int.reduceToNat, Int.reduceNeg, reduceCtorEq, Int.reduceEq, SF0, SF1, SF2, DBka0, DAlh0, DHb0, DHb1, DHa0, DCg0, DCe0, DCe1, DCe2, DDb0, DBc0, DBc1, DDe0, DAlv0, DBla0] | refine req (by omega) ?_ | fail
            refine ⟨x + 1, ⟨by omega, nextx fun hh => by rw [cutB_iff.2 hh.2] at c2; cases c2⟩, by omega, ?_⟩
            (refine wk_le ?_ ?_ ?_; (focus (simp [W8, leTm, leAV, AV.under, underL, Work.under, u1]; done)); (focus (simp [leL, OB.under, underL, AV.under, Work.under, u1]; done)); (focus (simp; done)))
        · repeat' first | simp (disch := omega) only [SX0, SX1, SX2, SX3, SX4, SX5, SX6, SX7, SX8, SU0, SY0, SY1, Nat.reduceAdd, Nat.reduceMul, Nat.reduceSub, Nat.reduceLeDiff, Nat.reduceEqDiff, Nat.reduceLT, Nat.reduceBEq, ↓reduceIte, Int.reduceLE, Int.reduceLT, Int.reduceToNat, Int.reduceNeg, reduceCtorEq, Int.reduceEq, SF0, SF1, SF2, DBka0, DAlh0, DHb0, DHb1, DHa0, DCg0, DCe0, DCe1, DCe2, DDb0, DBc0, DBc1, DDe0, DAlv0, DBla0] | refine req (by omega) ?_ | fail
          refine ⟨x + 1, ⟨by omega, nextx fun hh => by rw [cutB_iff.2 hh.1] at c1; cases c1⟩, by omega, ?_⟩
          (refine wk_le ?_ ?_ ?_; (focus (simp [W8, leTm, leAV, AV.under, underL, Work.under, u1]; done)); (focus (simp [leL, OB.under, underL, AV.under, Work.under, u1]; done)); (focus (simp; done)))
      have hx0 : x = w := by omega
      rw [hx0] at hx2
      simp (disch := omega) only [SX0, SX1, SX2, SX3, SX4, SX5, SX6, SX7, SX8, SU0, SY0, SY1, Nat.reduceAdd, Nat.reduceMul, Nat.reduceSub, Nat.reduceLeDiff, Nat.reduceEqDiff, Nat.reduceLT, Nat.reduceBEq, ↓reduceIte, Int.reduceLE, Int.reduceLT, Int.reduceToNat, Int.reduceNeg, reduceCtorEq, Int.reduceEq, SF0, SF1, SF2, DBka0, DAlh0, DHb0, DHb1, DHa0, DCg0, DCe0, DCe1, DCe2, DDb0, DBc0, DBc1, DDe0, DAlv0, DBla0]
      with_reducible refine awp_loop_h (G := Nat) 15 78 (fun y => [(14, .val (.int .i64 y))]) (fun _ => [.slab (tabC k S W D ++ [.os 1 1 0 ((W + 1) * D)]), .vec 1 (rowC g W D), .cells k.cs]) (fun y => (1 ≤ y ∧ y ≤ h) ∧ ∀ y', 1 ≤ y' → y' < y → ¬ (Cut k a w y' ∧ Cut k (S - a) w (h - y'))) (fun y => h - y) 1 ⟨⟨Nat.le_refl _, by omega⟩, fun x' a b => absurd a (by omega)⟩ ?_ (fun y hy => ?_)
      · simp (disch := omega) only [SX0, SX1, SX2, SX3, SX4, SX5, SX6, SX7, SX8, SU0, SY0, SY1, Nat.reduceAdd, Nat.reduceMul, Nat.reduceSub, Nat.reduceLeDiff, Nat.reduceEqDiff, Nat.reduceLT, Nat.reduceBEq, ↓reduceIte, Int.reduceLE, Int.reduceLT, Int.reduceToNat, Int.reduceNeg, reduceCtorEq, Int.reduceEq, SF0, SF1, SF2, DBka0, DAlh0, DHb0, DHb1, DHa0, DCg0, DCe0, DCe1, DCe2, DDb0, DBc0, DBc1, DDe0, DAlv0, DBla0]
        (refine wk_le ?_ ?_ ?_; (focus (simp [W8, leTm, leAV, AV.under, underL, Work.under, u1]; done)); (focus (simp [leL, OB.under, underL, AV.under, Work.under, u1]; done)); (focus (simp; done)))
      obtain ⟨hy1, hy2⟩ := hy
      refine sx_sound (bl := []) T_tt _ _ _ ?_
      simp (disch := omega) only [SX0, SX1, SX2, SX3, SX4, SX5, SX6, SX7, SX8, SU0, SY0, SY1, Nat.reduceAdd, Nat.reduceMul, Nat.reduceSub, Nat.reduceLeDiff, Nat.reduceEqDiff, Nat.reduceLT, Nat.reduceBEq, ↓reduceIte, Int.reduceLE, Int.reduceLT, Int.reduceToNat, Int.reduceNeg, reduceCtorEq, Int.reduceEq, SF0, SF1, SF2, DBka0, DAlh0, DHb0, DHb1, DHa0, DCg0, DCe0, DCe1, DCe2, DDb0, DBc0, DBc1, DDe0, DAlv0, DBla0]
      refine br_dec (fun h3 => ?_) (fun h3 => ?_)
      · have t1 := rowC_get (g := cutB k a) (W := W) (D := D) (w := w) (h := y) (by omega) (by omega)
        have t2 := rowC_get (g := cutB k (S - a)) (W := W) (D := D) (w := w) (h := h - y) (by omega) (by omega)
        have m1 := hDle w (by omega)
        have n1 := hMl w y (by omega) (by omega)
        have n2 := hMl w (h - y) (by omega) (by omega)
        have i1 := idx_int w y D
        have l1 := rowC_len (cutB k a) W D
        have l2 := rowC_len (cutB k (S - a)) W D
        have j1 : ((w * D : Nat) : Int) + (y : Int) = ((w * D + y : Nat) : Int) := by omega
        have j2 : ((w * D : Nat) : Int) + (h : Int) - (y : Int) = ((w * D + (h - y) : Nat) : Int) := by omega
        have nexty : ¬ (Cut k a w y ∧ Cut k (S - a) w (h - y)) → ∀ y', 1 ≤ y' → y' < y + 1 → ¬ (Cut k a w y' ∧ Cut k (S - a) w (h - y')) := fun hn y' q1 q2 => by
          by_cases e : y' = y
          · subst e; exact hn
          · exact hy2 y' q1 (by omega)
        repeat' first | simp (disch := omega) only [SX0, SX1, SX2, SX3, SX4, SX5, SX6, SX7, SX8, SU0, SY0, SY1, Nat.reduceAdd, Nat.reduceMul, Nat.reduceSub, Nat.reduceLeDiff, Nat.reduceEqDiff, Nat.reduceLT, Nat.reduceBEq, ↓reduceIte, Int.reduceLE, Int.reduceLT, Int.reduceToNat, Int.reduceNeg, reduceCtorEq, Int.reduceEq, SF0, SF1, SF2, DBka0, DAlh0, DHb0, DHb1, DHa0, DCg0, DCe0, DCe1, DCe2, DDb0, DBc0, DBc1, DDe0, DAlv0, DBla0, r1, r2, t1, t2, eSa, i1, j1, j2, l1, l2] | refine req (by omega) ?_ | fail
        refine br_bool (fun c1 => ?_) (fun c1 => ?_)
        · repeat' first | simp (disch := omega) only [SX0, SX1, SX2, SX3, SX4, SX5, SX6, SX7, SX8, SU0, SY0, SY1, Nat.reduceAdd, Nat.reduceMul, Nat.reduceSub, Nat.reduceLeDiff, Nat.reduceEqDiff, Nat.reduceLT, Nat.reduceBEq, ↓reduceIte, Int.reduceLE, Int.reduceLT, Int.reduceToNat, Int.reduceNeg, reduceCtorEq, Int.reduceEq, SF0, SF1, SF2, DBka0, DAlh0, DHb0, DHb1, DHa0, DCg0, DCe0, DCe1, DCe2, DDb0, DBc0, DBc1, DDe0, DAlv0, DBla0, r1, r2, t1, t2, eSa, i1, j1, j2, l1, l2] | refine req (by omega) ?_ | fail
          refine br_bool (fun c2 => ?_) (fun c2 => ?_)
          · repeat' first | simp (disch := omega) only [SX0, SX1, SX2, SX3, SX4, SX5, SX6, SX7, SX8, SU0, SY0, SY1, Nat.reduceAdd, Nat.reduceMul, Nat.reduceSub, Nat.reduceLeDiff, Nat.reduceEqDiff, Nat.reduceLT, Nat.reduceBEq, ↓reduceIte, Int.reduceLE, Int.reduceLT, Int.reduceToNat, Int.reduceNeg, reduceCtorEq, Int.reduceEq, SF0, SF1, SF2, DBka0, DAlh0, DHb0, DHb1, DHa0, DCg0, DCe0, DCe1, DCe2, DDb0, DBc0, DBc1, DDe0, DAlv0, DBla0] | fail
            exact fin _ true ⟨fun _ => ⟨a, hsb, by omega, haS, .inr ⟨y, by omega, by omega, cutB_iff.1 c1, cutB_iff.1 c2⟩⟩, fun _ => rfl⟩ rfl
          · repeat' first | simp (disch := omega) only [SX0, SX1, SX2, SX3, SX4, SX5, SX6, SX7, SX8, SU0, SY0, SY1, Nat.reduceAdd, Nat.reduceMul, Nat.reduceSub, Nat.reduceLeDiff, Nat.reduceEqDiff, Nat.reduceLT, Nat.reduceBEq, ↓reduceIte, Int.reduceLE, Int.reduceLT, Int.reduceToNat, Int.reduceNeg, reduceCtorEq, Int.reduceEq, SF0, SF1, SF2, DBka0, DAlh0, DHb0, DHb1, DHa0, DCg0, DCe0, DCe1, DCe2, DDb0, DBc0, DBc1, DDe0, DAlv0, DBla0] | refine req (by omega) ?_ | fail
            refine ⟨y + 1, ⟨by omega, nexty fun hh => by rw [cutB_iff.2 hh.2] at c2; cases c2⟩, by omega, ?_⟩
            (refine wk_le ?_ ?_ ?_; (focus (simp [W8, leTm, leAV, AV.under, underL, Work.under, u1]; done)); (focus (simp [leL, OB.under, underL, AV.under, Work.under, u1]; done)); (focus (simp; done)))
        · repeat' first | simp (disch := omega) only [SX0, SX1, SX2, SX3, SX4, SX5, SX6, SX7, SX8, SU0, SY0, SY1, Nat.reduceAdd, Nat.reduceMul, Nat.reduceSub, Nat.reduceLeDiff, Nat.reduceEqDiff, Nat.reduceLT, Nat.reduceBEq, ↓reduceIte, Int.reduceLE, Int.reduceLT, Int.reduceToNat, Int.reduceNeg, reduceCtorEq, Int.reduceEq, SF0, SF1, SF2, DBka0, DAlh0, DHb0, DHb1, DHa0, DCg0, DCe0, DCe1, DCe2, DDb0, DBc0, DBc1, DDe0, DAlv0, DBla0] | refine req (by omega) ?_ | fail
          refine ⟨y + 1, ⟨by omega, nexty fun hh => by rw [cutB_iff.2 hh.1] at c1; cases c1⟩, by omega, ?_⟩
          (refine wk_le ?_ ?_ ?_; (focus (simp [W8, leTm, leAV, AV.under, underL, Work.under, u1]; done)); (focus (simp [leL, OB.under, underL, AV.under, Work.under, u1]; done)); (focus (simp; done)))
      have hy0 : y = h := by omega
      rw [hy0] at hy2
      simp (disch := omega) only [SX0, SX1, SX2, SX3, SX4, SX5, SX6, SX7, SX8, SU0, SY0, SY1, Nat.reduceAdd, Nat.reduceMul, Nat.reduceSub, Nat.reduceLeDiff, Nat.reduceEqDiff, Nat.reduceLT, Nat.reduceBEq, ↓reduceIte, Int.reduceLE, Int.reduceLT, Int.reduceToNat, Int.reduceNeg, reduceCtorEq, Int.reduceEq, SF0, SF1, SF2, DBka0, DAlh0, DHb0, DHb1, DHa0, DCg0, DCe0, DCe1, DCe2, DDb0, DBc0, DBc1, DDe0, DAlv0, DBla0]
      refine ⟨a + 1, ⟨by omega, .inl (by omega), next fun hh => ?_⟩, by omega, ?_⟩
      · rcases hh.2 with ⟨x', q1, q2, q3, q4⟩ | ⟨y', q1, q2, q3, q4⟩
        · exact hx2 x' q1 q2 ⟨q3, q4⟩
        · exact hy2 y' q1 q2 ⟨q3, q4⟩
      (refine wk_le ?_ ?_ ?_; (focus (simp [W8, leTm, leAV, AV.under, underL, Work.under, u1]; done)); (focus (simp [leL, OB.under, underL, AV.under, Work.under, u1]; done)); (focus (simp; done)))
    · rw [decide_eq_false hsb]
      simp (disch := omega) only [SX0, SX1, SX2, SX3, SX4, SX5, SX6, SX7, SX8, SU0, SY0, SY1, Nat.reduceAdd, Nat.reduceMul, Nat.reduceSub, Nat.reduceLeDiff, Nat.reduceEqDiff, Nat.reduceLT, Nat.reduceBEq, ↓reduceIte, Int.reduceLE, Int.reduceLT, Int.reduceToNat, Int.reduceNeg, reduceCtorEq, Int.reduceEq, SF0, SF1, SF2, DBka0, DAlh0, DHb0, DHb1, DHa0, DCg0, DCe0, DCe1, DCe2, DDb0, DBc0, DBc1, DDe0, DAlv0, DBla0]
      refine ⟨a + 1, ⟨by omega, .inl (by omega), next fun hh => hsb hh.1⟩, by omega, ?_⟩
      (refine wk_le ?_ ?_ ?_; (focus (simp [W8, leTm, leAV, AV.under, underL, Work.under, u1]; done)); (focus (simp [leL, OB.under, underL, AV.under, Work.under, u1]; done)); (focus (simp; done)))
  · simp (disch := omega) only [SX0, SX1, SX2, SX3, SX4, SX5, SX6, SX7, SX8, SU0, SY0, SY1, Nat.reduceAdd, Nat.reduceMul, Nat.reduceSub, Nat.reduceLeDiff, Nat.reduceEqDiff, Nat.reduceLT, Nat.reduceBEq, ↓reduceIte, Int.reduceLE, Int.reduceLT, Int.reduceToNat, Int.reduceNeg, reduceCtorEq, Int.reduceEq, SF0, SF1, SF2, DBka0, DAlh0, DHb0, DHb1, DHa0, DCg0, DCe0, DCe1, DCe2, DDb0, DBc0, DBc1, DDe0, DAlv0, DBla0]
    exact fin _ false ⟨fun h => by (cases h), fun ⟨a', b1, b2, b3, b4⟩ => absurd b4 (ha3 a' b1 b2 (by omega) b3)⟩ rfl

end Go.Pc
