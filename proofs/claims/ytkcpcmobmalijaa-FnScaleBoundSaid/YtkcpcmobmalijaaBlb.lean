/- What sets of panes can be cut: the program's look at two parts. -/
import Derived.Test.YtkcpcmobmalijaaBla
set_option linter.unusedSimpArgs false
set_option linter.unusedVariables false
namespace Go.Pc
open Go Go.Proofs

theorem ob_cells (σ : Nat → Nat) (cs : List AV) : (OB.cells cs).ren σ = .cells (renL σ cs) := by simp [OB.ren, ← renL_map]
theorem tabB_drop {f : Nat → Nat → Nat → Bool} {s w h : Nat} (hs : s < 16) (hw : w < 17) (hh : h < 17) : (List.drop (s * 289 + w * 17 + h) (tabB f))[0]? = some (.val (.bool (f s w h))) := by
  rw [List.getElem?_drop, Nat.add_zero]
  exact tabB_get hs hw hh

theorem e_partsInto : Enters Try.prog 138 := enters_of Try.func138 (by kernel_rfl) (by kernel_rfl)
set_option maxRecDepth 16000 in
set_option maxHeartbeats 8000000 in
theorem partsInto_c (k : Work) (f : Nat → Nat → Nat → Bool) (s w h W H : Nat) (hW : W ≤ 16) (hH : H ≤ 16) (hs0 : 0 < s) (hs : s < 16) (hw : 1 ≤ w ∧ w ≤ W) (hh : 1 ≤ h ∧ h ≤ H) (hf : ∀ a x y, a < s → 1 ≤ x → x ≤ W → 1 ≤ y → y ≤ H → f a x y = cutB k a x y) :
    ACalls Try.prog 138 [.ip (tabB f), .val (.int .i64 s), .val (.int .i64 w), .val (.int .i64 h)] [] [] (fun r L => r = .val (.bool (partsB k s w h)) ∧ L = []) := by
  have fin : ∀ (st : AS) (b : Bool), (b = true ↔ parts k s w h) → Fin [] 0 (fun r L => r = .val (.bool (partsB k s w h)) ∧ L = []) st (.val (.bool b)) := fun st b hb => by
    have e : partsB k s w h = b := by
      cases hp : partsB k s w h <;> cases b <;> first | rfl | (exfalso; rw [← Bool.not_eq_true, partsB_iff] at hp; exact hp (hb.1 rfl)) | (exfalso; have := hb.2 (partsB_iff.1 hp); cases this)
    rw [e]
    exact fin_val ⟨rfl, rfl⟩
  have e1 : (s : Int) - 1 = ((s - 1 : Nat) : Int) := by omega
  have a1 := and_val (a := s - 1) (b := s) (by omega) (by omega)
  obtain ⟨n1, n2, n3⟩ := sub_next (sub_refl s) hs0
  refine acalls_tm T_tt Try.func138 rfl e_partsInto 76 rfl (W8 _ _ _ _ .any .any .any .any (W8 .any .any .any .any .any .any .any .any (W8 .any .any .any .any .any .any .any .any (W8 .any .any .any .any .any .any .any .any (W8 .any .any .any .any .any .any .any .any (W8 .any .any .any .any .any .any .any .any (W8 .any .any .any .any .any .any .any .any (W8 .any .any .any .any .any .any .any .any (W8 .any .any .any .any .any .any .any .any (W8 .any .any .any .any .any .any .any .any [])))))))))) rfl (rv := [.tmp 8]) rfl (sx_sound (bl := []) T_tt _ _ _ ?_)
  repeat' first | simp (disch := omega) only [SX0, SX1, SX2, SX3, SX4, SX5, SX6, SX7, SX8, SU0, SY0, SY1, Nat.reduceAdd, Nat.reduceMul, Nat.reduceSub, Nat.reduceLeDiff, Nat.reduceEqDiff, Nat.reduceLT, Nat.reduceBEq, ↓reduceIte, Int.reduceLE, Int.reduceLT, Int.reduceToNat, Int.reduceNeg, reduceCtorEq, Int.reduceEq, SF0, SF1, SF2, DBla0, DBka0, DAlh0, DHb0, DHb1, DHa0, DCg0, DCe0, DCe1, DCe2, DDb0, DBc0, DBc1, DDe0, DAlv0, e1, a1] | refine req (by omega) ?_ | fail
  with_reducible refine awp_loop_h (G := Nat) 10 70 (fun g => [(9, .val (.int .i64 g))]) (fun _ => []) (fun g => sub g s ∧ g < s ∧ ∀ a, sub a s → 0 < a → a < s → g < a → ¬ partA k s w h a) (fun g => g) ((s - 1) &&& s) ⟨n1, n2, fun a ha _ h1 h2 => by have := n3 a ha h1; omega⟩ ?_ (fun g hg => ?_)
  · simp (disch := omega) only [SX0, SX1, SX2, SX3, SX4, SX5, SX6, SX7, SX8, SU0, SY0, SY1, Nat.reduceAdd, Nat.reduceMul, Nat.reduceSub, Nat.reduceLeDiff, Nat.reduceEqDiff, Nat.reduceLT, Nat.reduceBEq, ↓reduceIte, Int.reduceLE, Int.reduceLT, Int.reduceToNat, Int.reduceNeg, reduceCtorEq, Int.reduceEq, SF0, SF1, SF2, DBla0, DBka0, DAlh0, DHb0, DHb1, DHa0, DCg0, DCe0, DCe1, DCe2, DDb0, DBc0, DBc1, DDe0, DAlv0]
    (refine wk_le ?_ ?_ ?_; (focus (simp [W8, leTm, leAV, AV.under, underL, tabB_under]; done)); (focus (simp [leL, OB.under, underL, AV.under, tabB_under]; done)); (focus (simp; done)))
  obtain ⟨hg1, hg2, hg3⟩ := hg
  refine sx_sound (bl := []) T_tt _ _ _ ?_
  simp (disch := omega) only [SX0, SX1, SX2, SX3, SX4, SX5, SX6, SX7, SX8, SU0, SY0, SY1, Nat.reduceAdd, Nat.reduceMul, Nat.reduceSub, Nat.reduceLeDiff, Nat.reduceEqDiff, Nat.reduceLT, Nat.reduceBEq, ↓reduceIte, Int.reduceLE, Int.reduceLT, Int.reduceToNat, Int.reduceNeg, reduceCtorEq, Int.reduceEq, SF0, SF1, SF2, DBla0, DBka0, DAlh0, DHb0, DHb1, DHa0, DCg0, DCe0, DCe1, DCe2, DDb0, DBc0, DBc1, DDe0, DAlv0]
  refine br_dec (fun h1 => ?_) (fun h1 => ?_)
  · have eA := andNot_val (a := s) (b := g) (by omega) hg1
    simp (disch := omega) only [SX0, SX1, SX2, SX3, SX4, SX5, SX6, SX7, SX8, SU0, SY0, SY1, Nat.reduceAdd, Nat.reduceMul, Nat.reduceSub, Nat.reduceLeDiff, Nat.reduceEqDiff, Nat.reduceLT, Nat.reduceBEq, ↓reduceIte, Int.reduceLE, Int.reduceLT, Int.reduceToNat, Int.reduceNeg, reduceCtorEq, Int.reduceEq, SF0, SF1, SF2, DBla0, DBka0, DAlh0, DHb0, DHb1, DHa0, DCg0, DCe0, DCe1, DCe2, DDb0, DBc0, DBc1, DDe0, DAlv0, eA]
    with_reducible refine awp_loop_h (G := Nat) 12 68 (fun x => [(11, .val (.int .i64 x))]) (fun _ => []) (fun x => (1 ≤ x ∧ x ≤ w) ∧ ∀ x', 1 ≤ x' → x' < x → ¬ (Cut k g x' h ∧ Cut k (s - g) (w - x') h)) (fun x => w - x) 1 ⟨⟨Nat.le_refl _, by omega⟩, fun x' a b => absurd a (by omega)⟩ ?_ (fun x hx => ?_)
    · simp (disch := omega) only [SX0, SX1, SX2, SX3, SX4, SX5, SX6, SX7, SX8, SU0, SY0, SY1, Nat.reduceAdd, Nat.reduceMul, Nat.reduceSub, Nat.reduceLeDiff, Nat.reduceEqDiff, Nat.reduceLT, Nat.reduceBEq, ↓reduceIte, Int.reduceLE, Int.reduceLT, Int.reduceToNat, Int.reduceNeg, reduceCtorEq, Int.reduceEq, SF0, SF1, SF2, DBla0, DBka0, DAlh0, DHb0, DHb1, DHa0, DCg0, DCe0, DCe1, DCe2, DDb0, DBc0, DBc1, DDe0, DAlv0]
      (refine wk_le ?_ ?_ ?_; (focus (simp [W8, leTm, leAV, AV.under, underL, tabB_under]; done)); (focus (simp [leL, OB.under, underL, AV.under, tabB_under]; done)); (focus (simp; done)))
    obtain ⟨hx1, hx2⟩ := hx
    refine sx_sound (bl := []) T_tt _ _ _ ?_
    simp (disch := omega) only [SX0, SX1, SX2, SX3, SX4, SX5, SX6, SX7, SX8, SU0, SY0, SY1, Nat.reduceAdd, Nat.reduceMul, Nat.reduceSub, Nat.reduceLeDiff, Nat.reduceEqDiff, Nat.reduceLT, Nat.reduceBEq, ↓reduceIte, Int.reduceLE, Int.reduceLT, Int.reduceToNat, Int.reduceNeg, reduceCtorEq, Int.reduceEq, SF0, SF1, SF2, DBla0, DBka0, DAlh0, DHb0, DHb1, DHa0, DCg0, DCe0, DCe1, DCe2, DDb0, DBc0, DBc1, DDe0, DAlv0]
    refine br_dec (fun h2 => ?_) (fun h2 => ?_)
    · have t1 := tabB_drop (f := f) (s := g) (w := x) (h := h) (by omega) (by omega) (by omega)
      have t2 := tabB_drop (f := f) (s := s - g) (w := w - x) (h := h) (by omega) (by omega) (by omega)
      rw [hf g x h (by omega) (by omega) (by omega) (by omega) (by omega)] at t1
      rw [hf (s - g) (w - x) h (by omega) (by omega) (by omega) (by omega) (by omega)] at t2
      have ex : (w : Int) - x = ((w - x : Nat) : Int) := by omega
      repeat' first | simp (disch := omega) only [SX0, SX1, SX2, SX3, SX4, SX5, SX6, SX7, SX8, SU0, SY0, SY1, Nat.reduceAdd, Nat.reduceMul, Nat.reduceSub, Nat.reduceLeDiff, Nat.reduceEqDiff, Nat.reduceLT, Nat.reduceBEq, ↓reduceIte, Int.reduceLE, Int.reduceLT, Int.reduceToNat, Int.reduceNeg, reduceCtorEq, Int.reduceEq, SF0, SF1, SF2, DBla0, DBka0, DAlh0, DHb0, DHb1, DHa0, DCg0, DCe0, DCe1, DCe2, DDb0, DBc0, DBc1, DDe0, DAlv0, t1, t2, ex, List.length_drop, List.drop_drop] | refine req (by omega) ?_ | fail
      have nextx : ¬ (Cut k g x h ∧ Cut k (s - g) (w - x) h) → ∀ x', 1 ≤ x' → x' < x + 1 → ¬ (Cut k g x' h ∧ Cut k (s - g) (w - x') h) := fun hn x' q1 q2 => by
        by_cases e : x' = x
        · subst e; exact hn
        · exact hx2 x' q1 (by omega)
      refine br_bool (fun c1 => ?_) (fun c1 => ?_)
      · repeat' first | simp (disch := omega) only [SX0, SX1, SX2, SX3, SX4, SX5, SX6, SX7, SX8, SU0, SY0, SY1, Nat.reduceAdd, Nat.reduceMul, Nat.reduceSub, Nat.reduceLeDiff, Nat.reduceEqDiff, Nat.reduceLT, Nat.reduceBEq, ↓reduceIte, Int.reduceLE, Int.reduceLT, Int.reduceToNat, Int.reduceNeg, reduceCtorEq, Int.reduceEq, SF0, SF1, SF2, DBla0, DBka0, DAlh0, DHb0, DHb1, DHa0, DCg0, DCe0, DCe1, DCe2, DDb0, DBc0, DBc1, DDe0, DAlv0, t1, t2, ex, List.length_drop, List.drop_drop] | refine req (by omega) ?_ | fail
        refine br_bool (fun c2 => ?_) (fun c2 => ?_)
        · repeat' first | simp (disch := omega) only [SX0, SX1, SX2, SX3, SX4, SX5, SX6, SX7, SX8, SU0, SY0, SY1, Nat.reduceAdd, Nat.reduceMul, Nat.reduceSub, Nat.reduceLeDiff, Nat.reduceEqDiff, Nat.reduceLT, Nat.reduceBEq, ↓reduceIte, Int.reduceLE, Int.reduceLT, Int.reduceToNat, Int.reduceNeg, reduceCtorEq, Int.reduceEq, SF0, SF1, SF2, DBla0, DBka0, DAlh0, DHb0, DHb1, DHa0, DCg0, DCe0, DCe1, DCe2, DDb0, DBc0, DBc1, DDe0, DAlv0] | fail
          exact fin _ true ⟨fun _ => ⟨g, hg1, by omega, hg2, .inl ⟨x, by omega, by omega, cutB_iff.1 c1, cutB_iff.1 c2⟩⟩, fun _ => rfl⟩
        · repeat' first | simp (disch := omega) only [SX0, SX1, SX2, SX3, SX4, SX5, SX6, SX7, SX8, SU0, SY0, SY1, Nat.reduceAdd, Nat.reduceMul, Nat.reduceSub, Nat.reduceLeDiff, Nat.reduceEqDiff, Nat.reduceLT, Nat.reduceBEq, ↓reduceIte, Int.reduceLE, Int.reduceLT, Int.reduceToNat, Int.reduceNeg, reduceCtorEq, Int.reduceEq, SF0, SF1, SF2, DBla0, DBka0, DAlh0, DHb0, DHb1, DHa0, DCg0, DCe0, DCe1, DCe2, DDb0, DBc0, DBc1, DDe0, DAlv0] | refine req (by omega) ?_ | fail
          refine ⟨x + 1, ⟨by omega, nextx fun hh => by rw [cutB_iff.2 hh.2] at c2; cases c2⟩, by omega, ?_⟩
          (refine wk_le ?_ ?_ ?_; (focus (simp [W8, leTm, leAV, AV.under, underL, tabB_under]; done)); (focus (simp [leL, OB.under, underL, AV.under, tabB_under]; done)); (focus (simp; done)))
      · repeat' first | simp (disch := omega) only [SX0, SX1, SX2, SX3, SX4, SX5, SX6, SX7, SX8, SU0, SY0, SY1, Nat.reduceAdd, Nat.reduceMul, Nat.reduceSub, Nat.reduceLeDiff, Nat.reduceEqDiff, Nat.reduceLT, Nat.reduceBEq, ↓reduceIte, Int.reduceLE, Int.reduceLT, Int.reduceToNat, Int.reduceNeg, reduceCtorEq, Int.reduceEq, SF0, SF1, SF2, DBla0, DBka0, DAlh0, DHb0, DHb1, DHa0, DCg0, DCe0, DCe1, DCe2, DDb0, DBc0, DBc1, DDe0, DAlv0] | refine req (by omega) ?_ | fail
        refine ⟨x + 1, ⟨by omega, nextx fun hh => by rw [cutB_iff.2 hh.1] at c1; cases c1⟩, by omega, ?_⟩
        (refine wk_le ?_ ?_ ?_; (focus (simp [W8, leTm, leAV, AV.under, underL, tabB_under]; done)); (focus (simp [leL, OB.under, underL, AV.under, tabB_under]; done)); (focus (simp; done)))
    have hx0 : x = w := by omega
    rw [hx0] at hx2
    simp (disch := omega) only [SX0, SX1, SX2, SX3, SX4, SX5, SX6, SX7, SX8, SU0, SY0, SY1, Nat.reduceAdd, Nat.reduceMul, Nat.reduceSub, Nat.reduceLeDiff, Nat.reduceEqDiff, Nat.reduceLT, Nat.reduceBEq, ↓reduceIte, Int.reduceLE, Int.reduceLT, Int.reduceToNat, Int.reduceNeg, reduceCtorEq, Int.reduceEq, SF0, SF1, SF2, DBla0, DBka0, DAlh0, DHb0, DHb1, DHa0, DCg0, DCe0, DCe1, DCe2, DDb0, DBc0, DBc1, DDe0, DAlv0]
    with_reducible refine awp_loop_h (G := Nat) 13 67 (fun y => [(12, .val (.int .i64 y))]) (fun _ => []) (fun y => (1 ≤ y ∧ y ≤ h) ∧ ∀ y', 1 ≤ y' → y' < y → ¬ (Cut k g w y' ∧ Cut k (s - g) w (h - y'))) (fun y => h - y) 1 ⟨⟨Nat.le_refl _, by omega⟩, fun x' a b => absurd a (by omega)⟩ ?_ (fun y hy => ?_)
    · simp (disch := omega) only [SX0, SX1, SX2, SX3, SX4, SX5, SX6, SX7, SX8, SU0, SY0, SY1, Nat.reduceAdd, Nat.reduceMul, Nat.reduceSub, Nat.reduceLeDiff, Nat.reduceEqDiff, Nat.reduceLT, Nat.reduceBEq, ↓reduceIte, Int.reduceLE, Int.reduceLT, Int.reduceToNat, Int.reduceNeg, reduceCtorEq, Int.reduceEq, SF0, SF1, SF2, DBla0, DBka0, DAlh0, DHb0, DHb1, DHa0, DCg0, DCe0, DCe1, DCe2, DDb0, DBc0, DBc1, DDe0, DAlv0]
      (refine wk_le ?_ ?_ ?_; (focus (simp [W8, leTm, leAV, AV.under, underL, tabB_under]; done)); (focus (simp [leL, OB.under, underL, AV.under, tabB_under]; done)); (focus (simp; done)))
    obtain ⟨hy1, hy2⟩ := hy
    refine sx_sound (bl := []) T_tt _ _ _ ?_
    simp (disch := omega) only [SX0, SX1, SX2, SX3, SX4, SX5, SX6, SX7, SX8, SU0, SY0, SY1, Nat.reduceAdd, Nat.reduceMul, Nat.reduceSub, Nat.reduceLeDiff, Nat.reduceEqDiff, Nat.reduceLT, Nat.reduceBEq, ↓reduceIte, Int.reduceLE, Int.reduceLT, Int.reduceToNat, Int.reduceNeg, reduceCtorEq, Int.reduceEq, SF0, SF1, SF2, DBla0, DBka0, DAlh0, DHb0, DHb1, DHa0, DCg0, DCe0, DCe1, DCe2, DDb0, DBc0, DBc1, DDe0, DAlv0]
    refine br_dec (fun h3 => ?_) (fun h3 => ?_)
    · have t1 := tabB_drop (f := f) (s := g) (w := w) (h := y) (by omega) (by omega) (by omega)
      have t2 := tabB_drop (f := f) (s := s - g) (w := w) (h := h - y) (by omega) (by omega) (by omega)
      rw [hf g w y (by omega) (by omega) (by omega) (by omega) (by omega)] at t1
      rw [hf (s - g) w (h - y) (by omega) (by omega) (by omega) (by omega) (by omega)] at t2
      have ey : (h : Int) - y = ((h - y : Nat) : Int) := by omega
      have nexty : ¬ (Cut k g w y ∧ Cut k (s - g) w (h - y)) → ∀ y', 1 ≤ y' → y' < y + 1 → ¬ (Cut k g w y' ∧ Cut k (s - g) w (h - y')) := fun hn y' q1 q2 => by
        by_cases e : y' = y
        · subst e; exact hn
        · exact hy2 y' q1 (by omega)
      repeat' first | simp (disch := omega) only [SX0, SX1, SX2, SX3, SX4, SX5, SX6, SX7, SX8, SU0, SY0, SY1, Nat.reduceAdd, Nat.reduceMul, Nat.reduceSub, Nat.reduceLeDiff, Nat.reduceEqDiff, Nat.reduceLT, Nat.reduceBEq, ↓reduceIte, Int.reduceLE, Int.reduceLT, Int.reduceToNat, Int.reduceNeg, reduceCtorEq, Int.reduceEq, SF0, SF1, SF2, DBla0, DBka0, DAlh0, DHb0, DHb1, DHa0, DCg0, DCe0, DCe1, DCe2, DDb0, DBc0, DBc1, DDe0, DAlv0, t1, t2, ey, List.length_drop, List.drop_drop] | refine req (by omega) ?_ | fail
      refine br_bool (fun c1 => ?_) (fun c1 => ?_)
      · repeat' first | simp (disch := omega) only [SX0, SX1, SX2, SX3, SX4, SX5, SX6, SX7, SX8, SU0, SY0, SY1, Nat.reduceAdd, Nat.reduceMul, Nat.reduceSub, Nat.reduceLeDiff, Nat.reduceEqDiff, Nat.reduceLT, Nat.reduceBEq, ↓reduceIte, Int.reduceLE, Int.reduceLT, Int.reduceToNat, Int.reduceNeg, reduceCtorEq, Int.reduceEq, SF0, SF1, SF2, DBla0, DBka0, DAlh0, DHb0, DHb1, DHa0, DCg0, DCe0, DCe1, DCe2, DDb0, DBc0, DBc1, DDe0, DAlv0, t1, t2, ey, List.length_drop, List.drop_drop] | refine req (by omega) ?_ | fail
        refine br_bool (fun c2 => ?_) (fun c2 => ?_)
        · repeat' first | simp (disch := omega) only [SX0, SX1, SX2, SX3, SX4, SX5, SX6, SX7, SX8, SU0, SY0, SY1, Nat.reduceAdd, Nat.reduceMul, Nat.reduceSub, Nat.reduceLeDiff, Nat.reduceEqDiff, Nat.reduceLT, Nat.reduceBEq, ↓reduceIte, Int.reduceLE, Int.reduceLT, Int.reduceToNat, Int.reduceNeg, reduceCtorEq, Int.reduceEq, SF0, SF1, SF2, DBla0, DBka0, DAlh0, DHb0, DHb1, DHa0, DCg0, DCe0, DCe1, DCe2, DDb0, DBc0, DBc1, DDe0, DAlv0] | fail
          exact fin _ true ⟨fun _ => ⟨g, hg1, by omega, hg2, .inr ⟨y, by omega, by omega, cutB_iff.1 c1, cutB_iff.1 c2⟩⟩, fun _ => rfl⟩
        · repeat' first | simp (disch := omega) only [SX0, SX1, SX2, SX3, SX4, SX5, SX6, SX7, SX8, SU0, SY0, SY1, Nat.reduceAdd, Nat.reduceMul, Nat.reduceSub, Nat.reduceLeDiff, Nat.reduceEqDiff, Nat.reduceLT, Nat.reduceBEq, ↓reduceIte, Int.reduceLE, Int.reduceLT, Int.reduceToNat, Int.reduceNeg, reduceCtorEq, Int.reduceEq, SF0, SF1, SF2, DBla0, DBka0, DAlh0, DHb0, DHb1, DHa0, DCg0, DCe0, DCe1, DCe2, DDb0, DBc0, DBc1, DDe0, DAlv0] | refine req (by omega) ?_ | fail
          refine ⟨y + 1, ⟨by omega, nexty fun hh => by rw [cutB_iff.2 hh.2] at c2; cases c2⟩, by omega, ?_⟩
          (refine wk_le ?_ ?_ ?_; (focus (simp [W8, leTm, leAV, AV.under, underL, tabB_under]; done)); (focus (simp [leL, OB.under, underL, AV.under, tabB_under]; done)); (focus (simp; done)))
      · repeat' first | simp (disch := omega) only [SX0, SX1, SX2, SX3, SX4, SX5, SX6, SX7, SX8, SU0, SY0, SY1, Nat.reduceAdd, Nat.reduceMul, Nat.reduceSub, Nat.reduceLeDiff, Nat.reduceEqDiff, Nat.reduceLT, Nat.reduceBEq, ↓reduceIte, Int.reduceLE, Int.reduceLT, Int.reduceToNat, Int.reduceNeg, reduceCtorEq, Int.reduceEq, SF0, SF1, SF2, DBla0, DBka0, DAlh0, DHb0, DHb1, DHa0, DCg0, DCe0, DCe1, DCe2, DDb0, DBc0, DBc1, DDe0, DAlv0] | refine req (by omega) ?_ | fail
        refine ⟨y + 1, ⟨by omega, nexty fun hh => by rw [cutB_iff.2 hh.1] at c1; cases c1⟩, by omega, ?_⟩
        (refine wk_le ?_ ?_ ?_; (focus (simp [W8, leTm, leAV, AV.under, underL, tabB_under]; done)); (focus (simp [leL, OB.under, underL, AV.under, tabB_under]; done)); (focus (simp; done)))
    have hy0 : y = h := by omega
    rw [hy0] at hy2
    obtain ⟨nx1, nx2, nx3⟩ := sub_next hg1 (by omega)
    have eg : (g : Int) - 1 = ((g - 1 : Nat) : Int) := by omega
    have eB := and_val (a := g - 1) (b := s) (by omega) (by omega)
    repeat' first | simp (disch := omega) only [SX0, SX1, SX2, SX3, SX4, SX5, SX6, SX7, SX8, SU0, SY0, SY1, Nat.reduceAdd, Nat.reduceMul, Nat.reduceSub, Nat.reduceLeDiff, Nat.reduceEqDiff, Nat.reduceLT, Nat.reduceBEq, ↓reduceIte, Int.reduceLE, Int.reduceLT, Int.reduceToNat, Int.reduceNeg, reduceCtorEq, Int.reduceEq, SF0, SF1, SF2, DBla0, DBka0, DAlh0, DHb0, DHb1, DHa0, DCg0, DCe0, DCe1, DCe2, DDb0, DBc0, DBc1, DDe0, DAlv0, eg, eB] | refine req (by omega) ?_ | fail
    refine ⟨(g - 1) &&& s, ⟨nx1, by omega, fun a ha p0 p1 p2 => ?_⟩, nx2, ?_⟩
    · by_cases c : g < a
      · exact hg3 a ha p0 p1 c
      · have ea : a = g := by
          rcases Nat.lt_or_ge a g with q | q
          · have := nx3 a ha q; omega
          · omega
        subst ea
        rintro (⟨x', q1, q2, q3, q4⟩ | ⟨y', q1, q2, q3, q4⟩)
        · exact hx2 x' q1 q2 ⟨q3, q4⟩
        · exact hy2 y' q1 q2 ⟨q3, q4⟩
    (refine wk_le ?_ ?_ ?_; (focus (simp [W8, leTm, leAV, AV.under, underL, tabB_under]; done)); (focus (simp [leL, OB.under, underL, AV.under, tabB_under]; done)); (focus (simp; done)))
  · have g0 : g = 0 := by omega
    subst g0
    simp (disch := omega) only [SX0, SX1, SX2, SX3, SX4, SX5, SX6, SX7, SX8, SU0, SY0, SY1, Nat.reduceAdd, Nat.reduceMul, Nat.reduceSub, Nat.reduceLeDiff, Nat.reduceEqDiff, Nat.reduceLT, Nat.reduceBEq, ↓reduceIte, Int.reduceLE, Int.reduceLT, Int.reduceToNat, Int.reduceNeg, reduceCtorEq, Int.reduceEq, SF0, SF1, SF2, DBla0, DBka0, DAlh0, DHb0, DHb1, DHa0, DCg0, DCe0, DCe1, DCe2, DDb0, DBc0, DBc1, DDe0, DAlv0]
    exact fin _ false ⟨fun h => by (cases h), fun ⟨a, b1, b2, b3, b4⟩ => absurd b4 (hg3 a b1 b2 b3 b2)⟩

end Go.Pc
