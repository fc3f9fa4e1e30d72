/- Fewest bars: the reference's search. -/
import Derived.Test.YtkcpcmobmalijaaBkd
set_option linter.unusedSimpArgs false
set_option linter.unusedVariables false
namespace Go.Pc
open Go Go.Proofs

def rowZ (f : Nat → Int) (N S : Nat) : List Int := (List.range N).map fun s => if s < S then f s else 0
theorem rowZ_len (f : Nat → Int) (N S : Nat) : (rowZ f N S).length = N := by simp [rowZ]
theorem rowZ_get {f : Nat → Int} {N S s : Nat} (h : s < S) (hN : s < N) : (rowZ f N S)[s]? = some (f s) := by
  simp only [rowZ, List.getElem?_map, List.getElem?_range hN, Option.map_some, if_pos h]
theorem rowZ_zero {f : Nat → Int} {N : Nat} (h : f 0 = 0) : ints (rowZ f N 1) = List.replicate N [.val (.int .i64 0)] := by
  apply List.ext_getElem
  · simp [rowZ, ints]
  · intro i h1 h2
    simp only [ints, rowZ, List.getElem_map, List.getElem_range, List.getElem_replicate]
    by_cases c : i < 1
    · have : i = 0 := by omega
      subst this
      rw [if_pos c, h]
    · rw [if_neg c]
theorem rowZ_set {f : Nat → Int} {N S : Nat} (h : S < N) : (rowZ f N S).set S (f S) = rowZ f N (S + 1) := by
  apply List.ext_getElem
  · simp [rowZ]
  · intro x h1 h2
    rw [List.getElem_set]
    simp only [rowZ, List.getElem_map, List.getElem_range]
    by_cases e : S = x
    · subst e; rw [if_pos rfl, if_pos (by omega)]
    · rw [if_neg e]
      by_cases c : x < S
      · rw [if_pos c, if_pos (by omega)]
      · rw [if_neg c, if_neg (by omega)]
theorem rowZ_set0 {f : Nat → Int} {N S : Nat} (h : S < N) : (rowZ f N S).set S 0 = rowZ f N S := by
  apply List.ext_getElem
  · simp [rowZ]
  · intro x h1 h2
    rw [List.getElem_set]
    simp only [rowZ, List.getElem_map, List.getElem_range]
    by_cases e : S = x
    · subst e; rw [if_pos rfl, if_neg (by omega)]
    · rw [if_neg e]

theorem e_fewestS : Enters Try.prog 98 := enters_of Try.func98 (by kernel_rfl) (by kernel_rfl)
set_option maxRecDepth 16000 in
set_option maxHeartbeats 8000000 in
theorem fewestS_c (l : List Int) (bar : Int) (hok : okBars l bar 7) : ACalls Try.prog 98 [.sl (ints l), .val (.int .i64 bar)] [] [] (fun r L => r = .sl (ints (rowZ (fun s => (mD (barsF l bar) s : Int)) (2 ^ l.length) (2 ^ l.length))) ∧ L = []) := by
  have hn := hok.2.1
  have hm : ∀ s, s < 2 ^ l.length → LeastD (barsF l bar) s (mD (barsF l bar) s) := fun s hs => (mD_ok (barsF_one hok) hs).1
  have hm2 : ∀ s, s < 2 ^ l.length → mD (barsF l bar) s ≤ l.length := fun s hs => (mD_ok (barsF_one hok) hs).2
  have hm0 : mD (barsF l bar) 0 = 0 := mD_zero _
  have hsb := fun S => hok.sum (by omega) S
  have hsT := fun j S => hok.sumT (by omega) j S
  have PW := powerS_c l.length (by omega)
  have hN1 : 1 ≤ 2 ^ l.length := Nat.one_le_two_pow
  have hN2 : 2 ^ l.length ≤ 2 ^ 7 := Nat.pow_le_pow_right (by omega) hn
  generalize hF : barsF l bar = F at *
  have hFd : ∀ g, F g ↔ sumS l g ≤ bar := fun g => by rw [← hF]; rfl
  generalize hmm : mD F = m at *
  generalize hN : 2 ^ l.length = N at *
  refine acalls_tm T_tt Try.func98 rfl e_fewestS 80 rfl (W8 _ _ .any .any .any .any .any .any (W8 .any .any .any .any .any .any .any .any (W8 .any .any .any .any .any .any .any .any (W8 .any .any .any .any .any .any .any .any (W8 .any .any .any .any .any .any .any .any (W8 .any .any .any .any .any .any .any .any (W8 .any .any .any .any .any .any .any .any (W8 .any .any .any .any .any .any .any .any (W8 .any .any .any .any .any .any .any .any (W8 .any .any .any .any .any .any .any .any [.any, .any])))))))))) rfl (rv := [.tmp 4]) rfl (sx_sound (bl := []) T_tt _ _ _ ?_)
  simp (disch := omega) only [SX0, SX1, SX2, SX3, SX4, SX5, SX6, SX7, SX8, SU0, SY0, SY1, Nat.reduceAdd, Nat.reduceMul, Nat.reduceSub, Nat.reduceLeDiff, Nat.reduceEqDiff, Nat.reduceLT, Nat.reduceBEq, ↓reduceIte, Int.reduceLE, Int.reduceLT, Int.reduceToNat, Int.reduceNeg, reduceCtorEq, Int.reduceEq, SF0, SF1, SF2, DBka0, DAlh0, DHb0, DHb1, DHa0, DCg0, DCe0, DCe1, DCe2, DDb0, DBc0, DBc1, DDe0, DAlv0]
  refine acall_one PW rfl rfl ?_
  repeat' first | simp (disch := omega) only [SX0, SX1, SX2, SX3, SX4, SX5, SX6, SX7, SX8, SU0, SY0, SY1, Nat.reduceAdd, Nat.reduceMul, Nat.reduceSub, Nat.reduceLeDiff, Nat.reduceEqDiff, Nat.reduceLT, Nat.reduceBEq, ↓reduceIte, Int.reduceLE, Int.reduceLT, Int.reduceToNat, Int.reduceNeg, reduceCtorEq, Int.reduceEq, SF0, SF1, SF2, DBka0, DAlh0, DHb0, DHb1, DHa0, DCg0, DCe0, DCe1, DCe2, DDb0, DBc0, DBc1, DDe0, DAlv0, Int.toNat_natCast] | refine req (by omega) ?_ | fail
  have z2 := rowZ_zero (f := fun s => (m s : Int)) (N := N) (by simp [hm0])
  have z1 := rowZ_zero (f := fun s => sumS l s) (N := N) (sumS_zero l)
  with_reducible refine awp_loop_h (G := Nat) 9 73 (fun S => [(8, .val (.int .i64 S))]) (fun S => [.vec 1 (ints (rowZ (fun s => sumS l s) N S)), .vec 1 (ints (rowZ (fun s => (m s : Int)) N S))]) (fun S => 1 ≤ S ∧ S ≤ N) (fun S => N - S) 1 ⟨Nat.le_refl _, hN1⟩ ?_ (fun S hS => ?_)
  · simp (disch := omega) only [SX0, SX1, SX2, SX3, SX4, SX5, SX6, SX7, SX8, SU0, SY0, SY1, Nat.reduceAdd, Nat.reduceMul, Nat.reduceSub, Nat.reduceLeDiff, Nat.reduceEqDiff, Nat.reduceLT, Nat.reduceBEq, ↓reduceIte, Int.reduceLE, Int.reduceLT, Int.reduceToNat, Int.reduceNeg, reduceCtorEq, Int.reduceEq, SF0, SF1, SF2, DBka0, DAlh0, DHb0, DHb1, DHa0, DCg0, DCe0, DCe1, DCe2, DDb0, DBc0, DBc1, DDe0, DAlv0]
    simp only [ints] at z1 z2
    rw [z1, z2]
    (refine wk_le ?_ ?_ ?_; (focus (simp [W8, leTm, leAV, AV.under, underL, ints]; done)); (focus (simp [leL, OB.under, underL, AV.under, ints]; done)); (focus (simp; done)))
  obtain ⟨hS1, hS2⟩ := hS
  refine sx_sound (bl := []) T_tt _ _ _ ?_
  simp (disch := omega) only [SX0, SX1, SX2, SX3, SX4, SX5, SX6, SX7, SX8, SU0, SY0, SY1, Nat.reduceAdd, Nat.reduceMul, Nat.reduceSub, Nat.reduceLeDiff, Nat.reduceEqDiff, Nat.reduceLT, Nat.reduceBEq, ↓reduceIte, Int.reduceLE, Int.reduceLT, Int.reduceToNat, Int.reduceNeg, reduceCtorEq, Int.reduceEq, SF0, SF1, SF2, DBka0, DAlh0, DHb0, DHb1, DHa0, DCg0, DCe0, DCe1, DCe2, DDb0, DBc0, DBc1, DDe0, DAlv0]
  refine br_dec (fun h1 => ?_) (fun h1 => ?_)
  · have hSN : S < N := by omega
    have l1 := rowZ_len (fun s => sumS l s) N S
    have l2 := rowZ_len (fun s => (m s : Int)) N S
    simp (disch := omega) only [SX0, SX1, SX2, SX3, SX4, SX5, SX6, SX7, SX8, SU0, SY0, SY1, Nat.reduceAdd, Nat.reduceMul, Nat.reduceSub, Nat.reduceLeDiff, Nat.reduceEqDiff, Nat.reduceLT, Nat.reduceBEq, ↓reduceIte, Int.reduceLE, Int.reduceLT, Int.reduceToNat, Int.reduceNeg, reduceCtorEq, Int.reduceEq, SF0, SF1, SF2, DBka0, DAlh0, DHb0, DHb1, DHa0, DCg0, DCe0, DCe1, DCe2, DDb0, DBc0, DBc1, DDe0, DAlv0]
    rw [← rowZ_set0 (f := fun s => sumS l s) hSN]
    with_reducible refine awp_loop_h (G := Nat) 10 72 (fun i => [(9, .val (.int .i64 i))]) (fun i => [.vec 1 (ints ((rowZ (fun s => sumS l s) N S).set S (sumS (l.take i) S))), .vec 1 (ints (rowZ (fun s => (m s : Int)) N S))]) (fun i => i ≤ l.length) (fun i => l.length - i) 0 (Nat.zero_le _) ?_ (fun i hi => ?_)
    · simp (disch := omega) only [SX0, SX1, SX2, SX3, SX4, SX5, SX6, SX7, SX8, SU0, SY0, SY1, Nat.reduceAdd, Nat.reduceMul, Nat.reduceSub, Nat.reduceLeDiff, Nat.reduceEqDiff, Nat.reduceLT, Nat.reduceBEq, ↓reduceIte, Int.reduceLE, Int.reduceLT, Int.reduceToNat, Int.reduceNeg, reduceCtorEq, Int.reduceEq, SF0, SF1, SF2, DBka0, DAlh0, DHb0, DHb1, DHa0, DCg0, DCe0, DCe1, DCe2, DDb0, DBc0, DBc1, DDe0, DAlv0]
      (refine wk_le ?_ ?_ ?_; (focus (simp [W8, leTm, leAV, AV.under, underL, ints, sumS]; done)); (focus (simp [leL, OB.under, underL, AV.under, ints, sumS]; done)); (focus (simp; done)))
    have l3 : ((rowZ (fun s => sumS l s) N S).set S (sumS (l.take i) S)).length = N := by rw [List.length_set]; exact l1
    refine sx_sound (bl := []) T_tt _ _ _ ?_
    simp (disch := omega) only [SX0, SX1, SX2, SX3, SX4, SX5, SX6, SX7, SX8, SU0, SY0, SY1, Nat.reduceAdd, Nat.reduceMul, Nat.reduceSub, Nat.reduceLeDiff, Nat.reduceEqDiff, Nat.reduceLT, Nat.reduceBEq, ↓reduceIte, Int.reduceLE, Int.reduceLT, Int.reduceToNat, Int.reduceNeg, reduceCtorEq, Int.reduceEq, SF0, SF1, SF2, DBka0, DAlh0, DHb0, DHb1, DHa0, DCg0, DCe0, DCe1, DCe2, DDb0, DBc0, DBc1, DDe0, DAlv0]
    refine br_dec (fun h2 => ?_) (fun h2 => ?_)
    · obtain ⟨x, hx⟩ := get_lt (l := l) (i := i) (by omega)
      have hnx := sumS_next l i x S hx
      have hxb := hok.2.2 x (List.mem_of_getElem? hx)
      have hbar := hok.1
      have hst := hsT i S
      have gS : ((rowZ (fun s => sumS l s) N S).set S (sumS (l.take i) S))[S]? = some (sumS (l.take i) S) := by rw [List.getElem?_set_self (by omega)]
      simp (disch := omega) only [SX0, SX1, SX2, SX3, SX4, SX5, SX6, SX7, SX8, SU0, SY0, SY1, Nat.reduceAdd, Nat.reduceMul, Nat.reduceSub, Nat.reduceLeDiff, Nat.reduceEqDiff, Nat.reduceLT, Nat.reduceBEq, ↓reduceIte, Int.reduceLE, Int.reduceLT, Int.reduceToNat, Int.reduceNeg, reduceCtorEq, Int.reduceEq, SF0, SF1, SF2, DBka0, DAlh0, DHb0, DHb1, DHa0, DCg0, DCe0, DCe1, DCe2, DDb0, DBc0, DBc1, DDe0, DAlv0]
      refine acall_one (hasS_c S i (by omega) (by omega)) rfl rfl ?_
      simp (disch := omega) only [SX0, SX1, SX2, SX3, SX4, SX5, SX6, SX7, SX8, SU0, SY0, SY1, Nat.reduceAdd, Nat.reduceMul, Nat.reduceSub, Nat.reduceLeDiff, Nat.reduceEqDiff, Nat.reduceLT, Nat.reduceBEq, ↓reduceIte, Int.reduceLE, Int.reduceLT, Int.reduceToNat, Int.reduceNeg, reduceCtorEq, Int.reduceEq, SF0, SF1, SF2, DBka0, DAlh0, DHb0, DHb1, DHa0, DCg0, DCe0, DCe1, DCe2, DDb0, DBc0, DBc1, DDe0, DAlv0]
      refine br_dec (fun h3 => ?_) (fun h3 => ?_)
      · rw [if_pos h3] at hnx
        have sS : (List.map (fun x => [AV.val (.int .i64 x)]) ((rowZ (fun s => sumS l s) N S).set S (sumS (l.take i) S))).set S [.val (.int .i64 (sumS (l.take i) S + x))] = ints ((rowZ (fun s => sumS l s) N S).set S (sumS (l.take (i + 1)) S)) := by rw [hnx]; simp [ints, List.map_set]
        simp (disch := omega) only [SX0, SX1, SX2, SX3, SX4, SX5, SX6, SX7, SX8, SU0, SY0, SY1, Nat.reduceAdd, Nat.reduceMul, Nat.reduceSub, Nat.reduceLeDiff, Nat.reduceEqDiff, Nat.reduceLT, Nat.reduceBEq, ↓reduceIte, Int.reduceLE, Int.reduceLT, Int.reduceToNat, Int.reduceNeg, reduceCtorEq, Int.reduceEq, SF0, SF1, SF2, DBka0, DAlh0, DHb0, DHb1, DHa0, DCg0, DCe0, DCe1, DCe2, DDb0, DBc0, DBc1, DDe0, DAlv0]
        refine awp_draw (bl := []) T_tt mixed 12 (by decide) (by kernel_rfl) (.inr ⟨by kernel_rfl, by kernel_rfl⟩) (by kernel_rfl) ?_
        repeat' first | simp (disch := omega) only [SX0, SX1, SX2, SX3, SX4, SX5, SX6, SX7, SX8, SU0, SY0, SY1, Nat.reduceAdd, Nat.reduceMul, Nat.reduceSub, Nat.reduceLeDiff, Nat.reduceEqDiff, Nat.reduceLT, Nat.reduceBEq, ↓reduceIte, Int.reduceLE, Int.reduceLT, Int.reduceToNat, Int.reduceNeg, reduceCtorEq, Int.reduceEq, SF0, SF1, SF2, DBka0, DAlh0, DHb0, DHb1, DHa0, DCg0, DCe0, DCe1, DCe2, DDb0, DBc0, DBc1, DDe0, DAlv0, gS, hx, sS] | refine req (by omega) ?_ | fail
        refine ⟨i + 1, by omega, by omega, ?_⟩
        (refine wk_le ?_ ?_ ?_; (focus (simp [W8, leTm, leAV, AV.under, underL, ints]; done)); (focus (simp [leL, OB.under, underL, AV.under, ints]; done)); (focus (simp; done)))
      · rw [if_neg h3, Int.add_zero] at hnx
        simp (disch := omega) only [SX0, SX1, SX2, SX3, SX4, SX5, SX6, SX7, SX8, SU0, SY0, SY1, Nat.reduceAdd, Nat.reduceMul, Nat.reduceSub, Nat.reduceLeDiff, Nat.reduceEqDiff, Nat.reduceLT, Nat.reduceBEq, ↓reduceIte, Int.reduceLE, Int.reduceLT, Int.reduceToNat, Int.reduceNeg, reduceCtorEq, Int.reduceEq, SF0, SF1, SF2, DBka0, DAlh0, DHb0, DHb1, DHa0, DCg0, DCe0, DCe1, DCe2, DDb0, DBc0, DBc1, DDe0, DAlv0]
        refine ⟨i + 1, by omega, by omega, ?_⟩
        (refine wk_le ?_ ?_ ?_; (focus (simp [W8, leTm, leAV, AV.under, underL, ints, hnx]; done)); (focus (simp [leL, OB.under, underL, AV.under, ints, hnx]; done)); (focus (simp; done)))
    · have ei : i = l.length := by omega
      subst ei
      rw [List.take_length, rowZ_set (f := fun s => sumS l s) hSN]
      have l1' := rowZ_len (fun s => sumS l s) N (S + 1)
      have g0 : (rowZ (fun s => (m s : Int)) N S)[S]? = some 0 := by simp [rowZ, hSN]
      have s0 : (List.map (fun x => [AV.val (.int .i64 x)]) (rowZ (fun s => (m s : Int)) N S)).set S [.val (.int .i64 ((l.length : Int) + 1))] = ints ((rowZ (fun s => (m s : Int)) N S).set S ((l.length : Int) + 1)) := by simp [ints, List.map_set]
      repeat' first | simp (disch := omega) only [SX0, SX1, SX2, SX3, SX4, SX5, SX6, SX7, SX8, SU0, SY0, SY1, Nat.reduceAdd, Nat.reduceMul, Nat.reduceSub, Nat.reduceLeDiff, Nat.reduceEqDiff, Nat.reduceLT, Nat.reduceBEq, ↓reduceIte, Int.reduceLE, Int.reduceLT, Int.reduceToNat, Int.reduceNeg, reduceCtorEq, Int.reduceEq, SF0, SF1, SF2, DBka0, DAlh0, DHb0, DHb1, DHa0, DCg0, DCe0, DCe1, DCe2, DDb0, DBc0, DBc1, DDe0, DAlv0, g0, s0] | refine req (by omega) ?_ | fail
      with_reducible refine awp_loop_h (G := Int × Nat) 11 71 (fun g => [(9, .any), (10, .val (.int .i64 g.2))]) (fun g => [.vec 1 (ints (rowZ (fun s => sumS l s) N (S + 1))), .vec 1 (ints ((rowZ (fun s => (m s : Int)) N S).set S g.1))]) (fun g => g.2 ≤ S ∧ (∀ a, sub a S → g.2 < a → F a → g.1 ≤ m (S - a) + 1) ∧ (g.1 = l.length + 1 ∨ ∃ c : Nat, g.1 = c ∧ Div F S c) ∧ 0 ≤ g.1 ∧ g.1 ≤ l.length + 1) (fun g => g.2) ((l.length : Int) + 1, S) ⟨Nat.le_refl _, fun a ha hl => absurd (sub_le ha) (by simp only [] at hl; omega), .inl rfl, by simp only []; omega, by simp⟩ ?_ (fun g hg => ?_)
      · simp (disch := omega) only [SX0, SX1, SX2, SX3, SX4, SX5, SX6, SX7, SX8, SU0, SY0, SY1, Nat.reduceAdd, Nat.reduceMul, Nat.reduceSub, Nat.reduceLeDiff, Nat.reduceEqDiff, Nat.reduceLT, Nat.reduceBEq, ↓reduceIte, Int.reduceLE, Int.reduceLT, Int.reduceToNat, Int.reduceNeg, reduceCtorEq, Int.reduceEq, SF0, SF1, SF2, DBka0, DAlh0, DHb0, DHb1, DHa0, DCg0, DCe0, DCe1, DCe2, DDb0, DBc0, DBc1, DDe0, DAlv0]
        (refine wk_le ?_ ?_ ?_; (focus (simp [W8, leTm, leAV, AV.under, underL, ints]; done)); (focus (simp [leL, OB.under, underL, AV.under, ints]; done)); (focus (simp; done)))
      obtain ⟨b, g⟩ := g
      simp only at hg
      obtain ⟨hg1, hg2, hg3, hg4, hg5⟩ := hg
      have l4 : ((rowZ (fun s => (m s : Int)) N S).set S b).length = N := by rw [List.length_set]; exact l2
      refine sx_sound (bl := []) T_tt _ _ _ ?_
      simp (disch := omega) only [SX0, SX1, SX2, SX3, SX4, SX5, SX6, SX7, SX8, SU0, SY0, SY1, Nat.reduceAdd, Nat.reduceMul, Nat.reduceSub, Nat.reduceLeDiff, Nat.reduceEqDiff, Nat.reduceLT, Nat.reduceBEq, ↓reduceIte, Int.reduceLE, Int.reduceLT, Int.reduceToNat, Int.reduceNeg, reduceCtorEq, Int.reduceEq, SF0, SF1, SF2, DBka0, DAlh0, DHb0, DHb1, DHa0, DCg0, DCe0, DCe1, DCe2, DDb0, DBc0, DBc1, DDe0, DAlv0]
      refine br_dec (fun h3 => ?_) (fun h3 => ?_)
      · have gS : ((rowZ (fun s => (m s : Int)) N S).set S b)[S]? = some b := by rw [List.getElem?_set_self (by omega)]
        have gR : ((rowZ (fun s => (m s : Int)) N S).set S b)[S - g]? = some (m (S - g) : Int) := by rw [List.getElem?_set_ne (by omega)]; exact rowZ_get (f := fun s => (m s : Int)) (by omega) (by omega)
        have gG := rowZ_get (f := fun s => sumS l s) (N := N) (S := S + 1) (s := g) (by omega) (by omega)
        have hmr := hm2 (S - g) (by omega)
        have eg : (g : Int) - 1 = ((g - 1 : Nat) : Int) := by omega
        have eSg : (S : Int) - g = ((S - g : Nat) : Int) := by omega
        have keep : ¬ (sub g S ∧ F g) → ∀ a, sub a S → g - 1 < a → F a → b ≤ m (S - a) + 1 := fun hn a ha hl hFa => by
          rcases Nat.lt_or_ge g a with c | c
          · exact hg2 a ha c hFa
          · have : a = g := by omega
            subst this
            exact absurd ⟨ha, hFa⟩ hn
        simp (disch := omega) only [SX0, SX1, SX2, SX3, SX4, SX5, SX6, SX7, SX8, SU0, SY0, SY1, Nat.reduceAdd, Nat.reduceMul, Nat.reduceSub, Nat.reduceLeDiff, Nat.reduceEqDiff, Nat.reduceLT, Nat.reduceBEq, ↓reduceIte, Int.reduceLE, Int.reduceLT, Int.reduceToNat, Int.reduceNeg, reduceCtorEq, Int.reduceEq, SF0, SF1, SF2, DBka0, DAlh0, DHb0, DHb1, DHa0, DCg0, DCe0, DCe1, DCe2, DDb0, DBc0, DBc1, DDe0, DAlv0]
        refine acall_one (insideS_c g S (by omega) (by omega)) rfl rfl ?_
        by_cases hsb' : sub g S
        · rw [decide_eq_true hsb']
          have hsg := hsb g
          repeat' first | simp (disch := omega) only [SX0, SX1, SX2, SX3, SX4, SX5, SX6, SX7, SX8, SU0, SY0, SY1, Nat.reduceAdd, Nat.reduceMul, Nat.reduceSub, Nat.reduceLeDiff, Nat.reduceEqDiff, Nat.reduceLT, Nat.reduceBEq, ↓reduceIte, Int.reduceLE, Int.reduceLT, Int.reduceToNat, Int.reduceNeg, reduceCtorEq, Int.reduceEq, SF0, SF1, SF2, DBka0, DAlh0, DHb0, DHb1, DHa0, DCg0, DCe0, DCe1, DCe2, DDb0, DBc0, DBc1, DDe0, DAlv0, gG] | refine req (by omega) ?_ | fail
          refine br_dec (fun h4 => ?_) (fun h4 => ?_)
          · have hFg := (hFd g).2 h4
            have hdv : Div F S (m (S - g) + 1) := .more S g _ hsb' (by omega) hFg (hm (S - g) (by omega)).1
            have upd' : (List.map (fun x => [AV.val (.int .i64 x)]) ((rowZ (fun s => (m s : Int)) N S).set S b)).set S [.val (.int .i64 (min b (1 + (m (S - g) : Int))))] = ints ((rowZ (fun s => (m s : Int)) N S).set S (min b (1 + (m (S - g) : Int)))) := by rw [← List.set_set (a := b) (b := min b (1 + (m (S - g) : Int)))]; simp [ints, List.map_set]
            simp (disch := omega) only [SX0, SX1, SX2, SX3, SX4, SX5, SX6, SX7, SX8, SU0, SY0, SY1, Nat.reduceAdd, Nat.reduceMul, Nat.reduceSub, Nat.reduceLeDiff, Nat.reduceEqDiff, Nat.reduceLT, Nat.reduceBEq, ↓reduceIte, Int.reduceLE, Int.reduceLT, Int.reduceToNat, Int.reduceNeg, reduceCtorEq, Int.reduceEq, SF0, SF1, SF2, DBka0, DAlh0, DHb0, DHb1, DHa0, DCg0, DCe0, DCe1, DCe2, DDb0, DBc0, DBc1, DDe0, DAlv0]
            refine awp_draw (bl := []) T_tt mixed 15 (by decide) (by kernel_rfl) (.inr ⟨by kernel_rfl, by kernel_rfl⟩) (by kernel_rfl) ?_
            repeat' first | simp (disch := omega) only [SX0, SX1, SX2, SX3, SX4, SX5, SX6, SX7, SX8, SU0, SY0, SY1, Nat.reduceAdd, Nat.reduceMul, Nat.reduceSub, Nat.reduceLeDiff, Nat.reduceEqDiff, Nat.reduceLT, Nat.reduceBEq, ↓reduceIte, Int.reduceLE, Int.reduceLT, Int.reduceToNat, Int.reduceNeg, reduceCtorEq, Int.reduceEq, SF0, SF1, SF2, DBka0, DAlh0, DHb0, DHb1, DHa0, DCg0, DCe0, DCe1, DCe2, DDb0, DBc0, DBc1, DDe0, DAlv0, gS, gR, eSg, upd'] | refine req (by omega) ?_ | fail
            simp only [eg]
            refine ⟨(min b (1 + (m (S - g) : Int)), g - 1), ⟨by simp only []; omega, fun a ha hl hFa => ?_, ?_, by simp only []; omega, by simp only []; omega⟩, by simp only []; omega, ?_⟩
            · simp only at hl ⊢
              rcases Nat.lt_or_ge g a with c | c
              · have := hg2 a ha c hFa; omega
              · have : a = g := by omega
                subst this; omega
            · simp only
              rcases Int.le_total b (1 + (m (S - g) : Int)) with c | c
              · rw [Int.min_eq_left c]; exact hg3
              · rw [Int.min_eq_right c]; exact .inr ⟨m (S - g) + 1, by omega, hdv⟩
            (refine wk_le ?_ ?_ ?_; (focus (simp [W8, leTm, leAV, AV.under, underL, ints]; done)); (focus (simp [leL, OB.under, underL, AV.under, ints]; done)); (focus (simp; done)))
          · simp (disch := omega) only [SX0, SX1, SX2, SX3, SX4, SX5, SX6, SX7, SX8, SU0, SY0, SY1, Nat.reduceAdd, Nat.reduceMul, Nat.reduceSub, Nat.reduceLeDiff, Nat.reduceEqDiff, Nat.reduceLT, Nat.reduceBEq, ↓reduceIte, Int.reduceLE, Int.reduceLT, Int.reduceToNat, Int.reduceNeg, reduceCtorEq, Int.reduceEq, SF0, SF1, SF2, DBka0, DAlh0, DHb0, DHb1, DHa0, DCg0, DCe0, DCe1, DCe2, DDb0, DBc0, DBc1, DDe0, DAlv0, eg]
            refine ⟨(b, g - 1), ⟨by simp only []; omega, keep fun hh => h4 ((hFd g).1 hh.2), hg3, hg4, hg5⟩, by simp only []; omega, ?_⟩
            (refine wk_le ?_ ?_ ?_; (focus (simp [W8, leTm, leAV, AV.under, underL, ints]; done)); (focus (simp [leL, OB.under, underL, AV.under, ints]; done)); (focus (simp; done)))
        · rw [decide_eq_false hsb']
          simp (disch := omega) only [SX0, SX1, SX2, SX3, SX4, SX5, SX6, SX7, SX8, SU0, SY0, SY1, Nat.reduceAdd, Nat.reduceMul, Nat.reduceSub, Nat.reduceLeDiff, Nat.reduceEqDiff, Nat.reduceLT, Nat.reduceBEq, ↓reduceIte, Int.reduceLE, Int.reduceLT, Int.reduceToNat, Int.reduceNeg, reduceCtorEq, Int.reduceEq, SF0, SF1, SF2, DBka0, DAlh0, DHb0, DHb1, DHa0, DCg0, DCe0, DCe1, DCe2, DDb0, DBc0, DBc1, DDe0, DAlv0, eg]
          refine ⟨(b, g - 1), ⟨by simp only []; omega, keep fun hh => hsb' hh.1, hg3, hg4, hg5⟩, by simp only []; omega, ?_⟩
          (refine wk_le ?_ ?_ ?_; (focus (simp [W8, leTm, leAV, AV.under, underL, ints]; done)); (focus (simp [leL, OB.under, underL, AV.under, ints]; done)); (focus (simp; done)))
      · have g0 : g = 0 := by omega
        subst g0
        have hle0 : b ≤ m S := by
          obtain ⟨a, c, p1, p2, p3, p4, p5⟩ := (hm S hSN).1.pos (by omega)
          have q1 := hg2 a p1 p2 p3
          have q2 := (hm (S - a) (by omega)).2 c p4
          omega
        have hmS := hm2 S hSN
        have eb : b = m S := by
          rcases hg3 with h | ⟨c, rfl, hc⟩
          · omega
          · have := (hm S hSN).2 c hc; omega
        subst eb
        rw [rowZ_set (f := fun s => (m s : Int)) hSN]
        repeat' first | simp (disch := omega) only [SX0, SX1, SX2, SX3, SX4, SX5, SX6, SX7, SX8, SU0, SY0, SY1, Nat.reduceAdd, Nat.reduceMul, Nat.reduceSub, Nat.reduceLeDiff, Nat.reduceEqDiff, Nat.reduceLT, Nat.reduceBEq, ↓reduceIte, Int.reduceLE, Int.reduceLT, Int.reduceToNat, Int.reduceNeg, reduceCtorEq, Int.reduceEq, SF0, SF1, SF2, DBka0, DAlh0, DHb0, DHb1, DHa0, DCg0, DCe0, DCe1, DCe2, DDb0, DBc0, DBc1, DDe0, DAlv0] | refine req (by omega) ?_ | fail
        refine ⟨S + 1, ⟨by omega, by omega⟩, by omega, ?_⟩
        (refine wk_le ?_ ?_ ?_; (focus (simp [W8, leTm, leAV, AV.under, underL, ints]; done)); (focus (simp [leL, OB.under, underL, AV.under, ints]; done)); (focus (simp; done)))
  · have e : S = N := by omega
    subst e
    simp (disch := omega) only [SX0, SX1, SX2, SX3, SX4, SX5, SX6, SX7, SX8, SU0, SY0, SY1, Nat.reduceAdd, Nat.reduceMul, Nat.reduceSub, Nat.reduceLeDiff, Nat.reduceEqDiff, Nat.reduceLT, Nat.reduceBEq, ↓reduceIte, Int.reduceLE, Int.reduceLT, Int.reduceToNat, Int.reduceNeg, reduceCtorEq, Int.reduceEq, SF0, SF1, SF2, DBka0, DAlh0, DHb0, DHb1, DHa0, DCg0, DCe0, DCe1, DCe2, DDb0, DBc0, DBc1, DDe0, DAlv0]
    exact fin_row (r := 1) (k := 1) rfl (by simp [rowZ]) ⟨rfl, rfl⟩

theorem e_fewestBarsS : Enters Try.prog 45 := enters_of Try.func45 (by kernel_rfl) (by kernel_rfl)
theorem fewestBarsS_c (l : List Int) (bar : Int) (hl : l.length < 2 ^ 40) : ACalls Try.prog 45 [.sl (ints l), .val (.int .i64 bar)] [] [] (fun r L => r = .val (.int .i64 (fewB l bar)) ∧ L = []) := by
  have VB := validBarsS_c l bar hl
  unfold fewB
  refine acalls_tm T_tt Try.func45 rfl e_fewestBarsS 22 rfl (W8 _ _ .any .any .any .any .any .any (W8 .any .any .any .any .any .any .any .any (W8 .any .any .any .any .any .any .any .any []))) rfl (rv := [.tmp 4]) rfl (sx_sound (bl := []) T_tt _ _ _ ?_)
  simp (disch := omega) only [SX0, SX1, SX2, SX3, SX4, SX5, SX6, SX7, SX8, SU0, SY0, SY1, Nat.reduceAdd, Nat.reduceMul, Nat.reduceSub, Nat.reduceLeDiff, Nat.reduceEqDiff, Nat.reduceLT, Nat.reduceBEq, ↓reduceIte, Int.reduceLE, Int.reduceLT, Int.reduceToNat, Int.reduceNeg, reduceCtorEq, Int.reduceEq, SF0, SF1, SF2, DBka0, DAlh0, DHb0, DHb1, DHa0, DCg0, DCe0, DCe1, DCe2, DDb0, DBc0, DBc1, DDe0, DAlv0]
  refine acall_one VB rfl rfl ?_
  by_cases h : okBars l bar 7
  · have h20 : okBars l bar 20 := ⟨h.1, by have := h.2.1; omega, h.2.2⟩
    have h7 := h.2.1
    have hN1 : 1 ≤ 2 ^ l.length := Nat.one_le_two_pow
    have hN2 : 2 ^ l.length ≤ 2 ^ 7 := Nat.pow_le_pow_right (by omega) h7
    have SF := fewestS_c l bar h
    have rl := rowZ_len (fun s => (mD (barsF l bar) s : Int)) (2 ^ l.length) (2 ^ l.length)
    have gl := rowZ_get (f := fun s => (mD (barsF l bar) s : Int)) (N := 2 ^ l.length) (S := 2 ^ l.length) (s := 2 ^ l.length - 1) (by omega) (by omega)
    rw [if_pos h, decide_eq_true h20]
    generalize 2 ^ l.length = N at *
    generalize rowZ (fun s => (mD (barsF l bar) s : Int)) N N = R at *
    simp (disch := omega) only [SX0, SX1, SX2, SX3, SX4, SX5, SX6, SX7, SX8, SU0, SY0, SY1, Nat.reduceAdd, Nat.reduceMul, Nat.reduceSub, Nat.reduceLeDiff, Nat.reduceEqDiff, Nat.reduceLT, Nat.reduceBEq, ↓reduceIte, Int.reduceLE, Int.reduceLT, Int.reduceToNat, Int.reduceNeg, reduceCtorEq, Int.reduceEq, SF0, SF1, SF2, DBka0, DAlh0, DHb0, DHb1, DHa0, DCg0, DCe0, DCe1, DCe2, DDb0, DBc0, DBc1, DDe0, DAlv0]
    refine br_dec (fun h2 => by omega) (fun _ => ?_)
    simp (disch := omega) only [SX0, SX1, SX2, SX3, SX4, SX5, SX6, SX7, SX8, SU0, SY0, SY1, Nat.reduceAdd, Nat.reduceMul, Nat.reduceSub, Nat.reduceLeDiff, Nat.reduceEqDiff, Nat.reduceLT, Nat.reduceBEq, ↓reduceIte, Int.reduceLE, Int.reduceLT, Int.reduceToNat, Int.reduceNeg, reduceCtorEq, Int.reduceEq, SF0, SF1, SF2, DBka0, DAlh0, DHb0, DHb1, DHa0, DCg0, DCe0, DCe1, DCe2, DDb0, DBc0, DBc1, DDe0, DAlv0]
    refine acall_one SF rfl (by simp [freeL, AV.free]) ?_
    have eN : (N : Int) - 1 = ((N - 1 : Nat) : Int) := by omega
    repeat' first | simp (disch := omega) only [SX0, SX1, SX2, SX3, SX4, SX5, SX6, SX7, SX8, SU0, SY0, SY1, Nat.reduceAdd, Nat.reduceMul, Nat.reduceSub, Nat.reduceLeDiff, Nat.reduceEqDiff, Nat.reduceLT, Nat.reduceBEq, ↓reduceIte, Int.reduceLE, Int.reduceLT, Int.reduceToNat, Int.reduceNeg, reduceCtorEq, Int.reduceEq, SF0, SF1, SF2, DBka0, DAlh0, DHb0, DHb1, DHa0, DCg0, DCe0, DCe1, DCe2, DDb0, DBc0, DBc1, DDe0, DAlv0, rl, eN, gl] | refine req (by omega) ?_ | fail
    exact fin_val ⟨rfl, rfl⟩
  · rw [if_neg h]
    by_cases h20 : okBars l bar 20
    · have h7 : ¬ l.length ≤ 7 := fun hh => h ⟨h20.1, hh, h20.2.2⟩
      rw [decide_eq_true h20]
      simp (disch := omega) only [SX0, SX1, SX2, SX3, SX4, SX5, SX6, SX7, SX8, SU0, SY0, SY1, Nat.reduceAdd, Nat.reduceMul, Nat.reduceSub, Nat.reduceLeDiff, Nat.reduceEqDiff, Nat.reduceLT, Nat.reduceBEq, ↓reduceIte, Int.reduceLE, Int.reduceLT, Int.reduceToNat, Int.reduceNeg, reduceCtorEq, Int.reduceEq, SF0, SF1, SF2, DBka0, DAlh0, DHb0, DHb1, DHa0, DCg0, DCe0, DCe1, DCe2, DDb0, DBc0, DBc1, DDe0, DAlv0]
      refine br_dec (fun _ => ?_) (fun h2 => by omega)
      simp (disch := omega) only [SX0, SX1, SX2, SX3, SX4, SX5, SX6, SX7, SX8, SU0, SY0, SY1, Nat.reduceAdd, Nat.reduceMul, Nat.reduceSub, Nat.reduceLeDiff, Nat.reduceEqDiff, Nat.reduceLT, Nat.reduceBEq, ↓reduceIte, Int.reduceLE, Int.reduceLT, Int.reduceToNat, Int.reduceNeg, reduceCtorEq, Int.reduceEq, SF0, SF1, SF2, DBka0, DAlh0, DHb0, DHb1, DHa0, DCg0, DCe0, DCe1, DCe2, DDb0, DBc0, DBc1, DDe0, DAlv0]
      exact fin_val ⟨rfl, rfl⟩
    · rw [decide_eq_false h20]
      simp (disch := omega) only [SX0, SX1, SX2, SX3, SX4, SX5, SX6, SX7, SX8, SU0, SY0, SY1, Nat.reduceAdd, Nat.reduceMul, Nat.reduceSub, Nat.reduceLeDiff, Nat.reduceEqDiff, Nat.reduceLT, Nat.reduceBEq, ↓reduceIte, Int.reduceLE, Int.reduceLT, Int.reduceToNat, Int.reduceNeg, reduceCtorEq, Int.reduceEq, SF0, SF1, SF2, DBka0, DAlh0, DHb0, DHb1, DHa0, DCg0, DCe0, DCe1, DCe2, DDb0, DBc0, DBc1, DDe0, DAlv0]
      exact fin_val ⟨rfl, rfl⟩

end Go.Pc
