/- Fewest sheets: the program's search. -/
import Derived.Test.YtkcpcmobmalijaaBkb
import Derived.Test.YtkcpcmobmalijaaBlc
set_option linter.unusedSimpArgs false
set_option linter.unusedVariables false
namespace Go.Pc
open Go Go.Proofs

theorem e_fgSheets : Enters Try.prog 89 := enters_of Try.func89 (by kernel_rfl) (by kernel_rfl)
set_option maxRecDepth 16000 in
set_option maxHeartbeats 8000000 in
theorem fgSheets_c (k : Work) (f0 : Nat → Nat → Nat → Bool) (F : Nat → Prop) [DecidablePred F] (m : Nat → Nat) (n : Nat) (hn : n ≤ 7) (hm : ∀ s, s < 2 ^ n → LeastD F s (m s)) (hm0 : m 0 = 0) (hm2 : ∀ s, s < 2 ^ n → m s ≤ 1000) (f : FuncId) (hf : ∀ s : Nat, s < 2 ^ n → ACalls Try.prog f [.val (.int .i64 s), .ptr 2 0, .ptr 0 0] [.cells k.cs, .cells (tabB f0), .cells [.ptr 1 0]] [0, 1, 2] (fun r L => r = .val (.bool (decide (F s))) ∧ L = [.cells k.cs, .cells (tabB f0), .cells [.ptr 1 0]])) :
    ACalls Try.prog 89 [.val (.int .i64 n), .fn f [.ptr 2 0, .ptr 0 0]] [.cells k.cs, .cells (tabB f0), .cells [.ptr 1 0]] [0, 1, 2] (fun r L => r = .val (.int .i64 (m (2 ^ n - 1))) ∧ L = [.cells k.cs, .cells (tabB f0), .cells [.ptr 1 0]]) := by
  have hN1 : 1 ≤ 2 ^ n := Nat.one_le_two_pow
  have hN2 : 2 ^ n ≤ 2 ^ 7 := Nat.pow_le_pow_right (by omega) hn
  have eN := shl_val (n := n) (by omega)
  generalize hN : 2 ^ n = N at *
  refine acalls_tm T_tt Try.func89 rfl e_fgSheets 65 rfl (W8 _ _ .any .any .any .any .any .any (W8 .any .any .any .any .any .any .any .any (W8 .any .any .any .any .any .any .any .any (W8 .any .any .any .any .any .any .any .any (W8 .any .any .any .any .any .any .any .any (W8 .any .any .any .any .any .any .any .any (W8 .any .any .any .any .any .any .any .any (W8 .any .any .any .any .any .any .any .any [.any, .any, .any])))))))) rfl (rv := [.tmp 4]) rfl (sx_sound (bl := []) T_tt _ _ _ ?_)
  repeat' first | simp (disch := omega) only [SX0, SX1, SX2, SX3, SX4, SX5, SX6, SX7, SX8, SU0, SY0, SY1, Nat.reduceAdd, Nat.reduceMul, Nat.reduceSub, Nat.reduceLeDiff, Nat.reduceEqDiff, Nat.reduceLT, Nat.reduceBEq, ↓reduceIte, Int.reduceLE, Int.reduceLT, Int.reduceToNat, Int.reduceNeg, reduceCtorEq, Int.reduceEq, SF0, SF1, SF2, DBka0, DAlh0, DHb0, DHb1, DHa0, DCg0, DCe0, DCe1, DCe2, DDb0, DBc0, DBc1, DDe0, DAlv0, DBla0, Int.toNat_natCast, eN] | refine req (by omega) ?_ | fail
  rw [← rowF_one (m := m) hm0]
  with_reducible refine awp_loop_h (G := Nat) 7 60 (fun S => [(6, .val (.int .i64 S))]) (fun S => [.cells k.cs, .cells (tabB f0), .cells [.ptr 1 0], .vec 1 (ints (rowF m N S))]) (fun S => 1 ≤ S ∧ S ≤ N) (fun S => N - S) 1 ⟨Nat.le_refl _, hN1⟩ ?_ (fun S hS => ?_)
  · simp (disch := omega) only [SX0, SX1, SX2, SX3, SX4, SX5, SX6, SX7, SX8, SU0, SY0, SY1, Nat.reduceAdd, Nat.reduceMul, Nat.reduceSub, Nat.reduceLeDiff, Nat.reduceEqDiff, Nat.reduceLT, Nat.reduceBEq, ↓reduceIte, Int.reduceLE, Int.reduceLT, Int.reduceToNat, Int.reduceNeg, reduceCtorEq, Int.reduceEq, SF0, SF1, SF2, DBka0, DAlh0, DHb0, DHb1, DHa0, DCg0, DCe0, DCe1, DCe2, DDb0, DBc0, DBc1, DDe0, DAlv0, DBla0]
    (refine wk_le ?_ ?_ ?_; (focus (simp [W8, leTm, leAV, AV.under, underL, ints, Work.under, tabB_under]; done)); (focus (simp [leL, OB.under, underL, AV.under, ints, Work.under, tabB_under]; done)); (focus (simp; done)))
  obtain ⟨hS1, hS2⟩ := hS
  refine sx_sound (bl := []) T_tt _ _ _ ?_
  repeat' first | simp (disch := omega) only [SX0, SX1, SX2, SX3, SX4, SX5, SX6, SX7, SX8, SU0, SY0, SY1, Nat.reduceAdd, Nat.reduceMul, Nat.reduceSub, Nat.reduceLeDiff, Nat.reduceEqDiff, Nat.reduceLT, Nat.reduceBEq, ↓reduceIte, Int.reduceLE, Int.reduceLT, Int.reduceToNat, Int.reduceNeg, reduceCtorEq, Int.reduceEq, SF0, SF1, SF2, DBka0, DAlh0, DHb0, DHb1, DHa0, DCg0, DCe0, DCe1, DCe2, DDb0, DBc0, DBc1, DDe0, DAlv0, DBla0, Int.toNat_natCast, eN] | refine req (by omega) ?_ | fail
  refine br_dec (fun h1 => ?_) (fun h1 => ?_)
  · have hSN : S < N := by omega
    have hrl := rowF_len m N S
    have g0 : (rowF m N S)[S]? = some 0 := by simp [rowF, hSN]
    have s0 : (List.map (fun x => [AV.val (.int .i64 x)]) (rowF m N S)).set S [.val (.int .i64 (-1))] = ints ((rowF m N S).set S (-1)) := by simp [ints, List.map_set]
    repeat' first | simp (disch := omega) only [SX0, SX1, SX2, SX3, SX4, SX5, SX6, SX7, SX8, SU0, SY0, SY1, Nat.reduceAdd, Nat.reduceMul, Nat.reduceSub, Nat.reduceLeDiff, Nat.reduceEqDiff, Nat.reduceLT, Nat.reduceBEq, ↓reduceIte, Int.reduceLE, Int.reduceLT, Int.reduceToNat, Int.reduceNeg, reduceCtorEq, Int.reduceEq, SF0, SF1, SF2, DBka0, DAlh0, DHb0, DHb1, DHa0, DCg0, DCe0, DCe1, DCe2, DDb0, DBc0, DBc1, DDe0, DAlv0, DBla0, g0, s0] | refine req (by omega) ?_ | fail
    with_reducible refine awp_loop_h (G := Int × Nat) 8 59 (fun g => [(7, .val (.int .i64 g.2))]) (fun g => [.cells k.cs, .cells (tabB f0), .cells [.ptr 1 0], .vec 1 (ints ((rowF m N S).set S g.1))]) (fun g => sub g.2 S ∧ (∀ a, sub a S → g.2 < a → F a → 0 ≤ g.1 ∧ g.1 ≤ m (S - a) + 1) ∧ (0 ≤ g.1 → ∃ c : Nat, g.1 = c ∧ Div F S c) ∧ -1 ≤ g.1 ∧ g.1 ≤ 1001) (fun g => g.2) (-1, S) ⟨sub_refl S, fun a ha hl => absurd (sub_le ha) (by simp only [] at hl; omega), fun h => by simp at h, by simp, by simp⟩ ?_ (fun g hg => ?_)
    · simp (disch := omega) only [SX0, SX1, SX2, SX3, SX4, SX5, SX6, SX7, SX8, SU0, SY0, SY1, Nat.reduceAdd, Nat.reduceMul, Nat.reduceSub, Nat.reduceLeDiff, Nat.reduceEqDiff, Nat.reduceLT, Nat.reduceBEq, ↓reduceIte, Int.reduceLE, Int.reduceLT, Int.reduceToNat, Int.reduceNeg, reduceCtorEq, Int.reduceEq, SF0, SF1, SF2, DBka0, DAlh0, DHb0, DHb1, DHa0, DCg0, DCe0, DCe1, DCe2, DDb0, DBc0, DBc1, DDe0, DAlv0, DBla0]
      (refine wk_le ?_ ?_ ?_; (focus (simp [W8, leTm, leAV, AV.under, underL, ints, Work.under, tabB_under]; done)); (focus (simp [leL, OB.under, underL, AV.under, ints, Work.under, tabB_under]; done)); (focus (simp; done)))
    obtain ⟨b, g⟩ := g
    simp only at hg
    obtain ⟨hg1, hg2, hg3, hg4, hg5⟩ := hg
    have hgS := sub_le hg1
    have hrl2 : ((rowF m N S).set S b).length = N := by rw [List.length_set]; exact hrl
    refine sx_sound (bl := []) T_tt _ _ _ ?_
    simp (disch := omega) only [SX0, SX1, SX2, SX3, SX4, SX5, SX6, SX7, SX8, SU0, SY0, SY1, Nat.reduceAdd, Nat.reduceMul, Nat.reduceSub, Nat.reduceLeDiff, Nat.reduceEqDiff, Nat.reduceLT, Nat.reduceBEq, ↓reduceIte, Int.reduceLE, Int.reduceLT, Int.reduceToNat, Int.reduceNeg, reduceCtorEq, Int.reduceEq, SF0, SF1, SF2, DBka0, DAlh0, DHb0, DHb1, DHa0, DCg0, DCe0, DCe1, DCe2, DDb0, DBc0, DBc1, DDe0, DAlv0, DBla0]
    refine br_dec (fun h2 => ?_) (fun h2 => ?_)
    · have eA := andNot_val (a := S) (b := g) (by omega) hg1
      have gR : ((rowF m N S).set S b)[S - g]? = some (m (S - g) : Int) := by rw [List.getElem?_set_ne (by omega)]; exact rowF_get (by omega) (by omega)
      have gS : ((rowF m N S).set S b)[S]? = some b := by rw [List.getElem?_set_self (by omega)]
      have hmr := hm2 (S - g) (by omega)
      obtain ⟨nx1, nx2, nx3⟩ := sub_next hg1 (by omega)
      have nxS := sub_le nx1
      have eg : (g : Int) - 1 = ((g - 1 : Nat) : Int) := by omega
      have eB := and_val (a := g - 1) (b := S) (by omega) (by omega)
      have hdv : F g → Div F S (m (S - g) + 1) := fun h => .more S g _ hg1 (by omega) h (hm (S - g) (by omega)).1
      repeat' first | simp (disch := omega) only [SX0, SX1, SX2, SX3, SX4, SX5, SX6, SX7, SX8, SU0, SY0, SY1, Nat.reduceAdd, Nat.reduceMul, Nat.reduceSub, Nat.reduceLeDiff, Nat.reduceEqDiff, Nat.reduceLT, Nat.reduceBEq, ↓reduceIte, Int.reduceLE, Int.reduceLT, Int.reduceToNat, Int.reduceNeg, reduceCtorEq, Int.reduceEq, SF0, SF1, SF2, DBka0, DAlh0, DHb0, DHb1, DHa0, DCg0, DCe0, DCe1, DCe2, DDb0, DBc0, DBc1, DDe0, DAlv0, DBla0, Int.toNat_natCast, eA, gR] | refine req (by omega) ?_ | fail
      refine br_dec (fun h => absurd h (by omega)) (fun _ => ?_)
      simp (disch := omega) only [SX0, SX1, SX2, SX3, SX4, SX5, SX6, SX7, SX8, SU0, SY0, SY1, Nat.reduceAdd, Nat.reduceMul, Nat.reduceSub, Nat.reduceLeDiff, Nat.reduceEqDiff, Nat.reduceLT, Nat.reduceBEq, ↓reduceIte, Int.reduceLE, Int.reduceLT, Int.reduceToNat, Int.reduceNeg, reduceCtorEq, Int.reduceEq, SF0, SF1, SF2, DBka0, DAlh0, DHb0, DHb1, DHa0, DCg0, DCe0, DCe1, DCe2, DDb0, DBc0, DBc1, DDe0, DAlv0, DBla0]
      refine acall_cl (hf g (by omega)) [0, 1, 2] [] (by simp [keepL, nameIn, AV.ren, renL, ints, ob_cells, Work.rend, tabB_rend]) (by decide) (by decide) (by rfl) (by simp [AV.ren, nameIn, renL]) ?_
      rintro _ _ ⟨rfl, rfl⟩
      by_cases hF : F g
      · rw [decide_eq_true hF]
        have hdv := hdv hF
        simp (disch := omega) only [SX0, SX1, SX2, SX3, SX4, SX5, SX6, SX7, SX8, SU0, SY0, SY1, Nat.reduceAdd, Nat.reduceMul, Nat.reduceSub, Nat.reduceLeDiff, Nat.reduceEqDiff, Nat.reduceLT, Nat.reduceBEq, ↓reduceIte, Int.reduceLE, Int.reduceLT, Int.reduceToNat, Int.reduceNeg, reduceCtorEq, Int.reduceEq, SF0, SF1, SF2, DBka0, DAlh0, DHb0, DHb1, DHa0, DCg0, DCe0, DCe1, DCe2, DDb0, DBc0, DBc1, DDe0, DAlv0, DBla0, gS]
        have nxt : ∀ b' : Int, ((b' = m (S - g) + 1 ∧ (b < 0 ∨ (m (S - g) : Int) + 1 ≤ b)) ∨ (b' = b ∧ 0 ≤ b ∧ b ≤ m (S - g) + 1)) → (∀ a, sub a S → ((g - 1) &&& S) < a → F a → 0 ≤ b' ∧ b' ≤ m (S - a) + 1) := fun b' hb a ha hl hFa => by
          rcases Nat.lt_or_ge g a with c | c
          · have := hg2 a ha c hFa
            omega
          · have : a = g := by
              rcases Nat.lt_or_ge a g with c2 | c2
              · have := nx3 a ha c2; omega
              · omega
            subst this
            omega
        have upd : ((rowF m N S).set S b).set S ((m (S - g) : Int) + 1) = (rowF m N S).set S ((m (S - g) : Int) + 1) := List.set_set ..
        have upd' : (List.map (fun x => [AV.val (.int .i64 x)]) ((rowF m N S).set S b)).set S [.val (.int .i64 ((m (S - g) : Int) + 1))] = ints ((rowF m N S).set S ((m (S - g) : Int) + 1)) := by rw [← upd]; simp [ints, List.map_set]
        repeat' first | simp (disch := omega) only [SX0, SX1, SX2, SX3, SX4, SX5, SX6, SX7, SX8, SU0, SY0, SY1, Nat.reduceAdd, Nat.reduceMul, Nat.reduceSub, Nat.reduceLeDiff, Nat.reduceEqDiff, Nat.reduceLT, Nat.reduceBEq, ↓reduceIte, Int.reduceLE, Int.reduceLT, Int.reduceToNat, Int.reduceNeg, reduceCtorEq, Int.reduceEq, SF0, SF1, SF2, DBka0, DAlh0, DHb0, DHb1, DHa0, DCg0, DCe0, DCe1, DCe2, DDb0, DBc0, DBc1, DDe0, DAlv0, DBla0, Int.toNat_natCast, gS] | refine req (by omega) ?_ | fail
        refine br_dec (fun h3 => ?_) (fun h3 => ?_)
        · simp (disch := omega) only [SX0, SX1, SX2, SX3, SX4, SX5, SX6, SX7, SX8, SU0, SY0, SY1, Nat.reduceAdd, Nat.reduceMul, Nat.reduceSub, Nat.reduceLeDiff, Nat.reduceEqDiff, Nat.reduceLT, Nat.reduceBEq, ↓reduceIte, Int.reduceLE, Int.reduceLT, Int.reduceToNat, Int.reduceNeg, reduceCtorEq, Int.reduceEq, SF0, SF1, SF2, DBka0, DAlh0, DHb0, DHb1, DHa0, DCg0, DCe0, DCe1, DCe2, DDb0, DBc0, DBc1, DDe0, DAlv0, DBla0, gS]
          repeat' first | simp (disch := omega) only [SX0, SX1, SX2, SX3, SX4, SX5, SX6, SX7, SX8, SU0, SY0, SY1, Nat.reduceAdd, Nat.reduceMul, Nat.reduceSub, Nat.reduceLeDiff, Nat.reduceEqDiff, Nat.reduceLT, Nat.reduceBEq, ↓reduceIte, Int.reduceLE, Int.reduceLT, Int.reduceToNat, Int.reduceNeg, reduceCtorEq, Int.reduceEq, SF0, SF1, SF2, DBka0, DAlh0, DHb0, DHb1, DHa0, DCg0, DCe0, DCe1, DCe2, DDb0, DBc0, DBc1, DDe0, DAlv0, DBla0, gS, upd', eg, eB] | refine req (by omega) ?_ | fail
          refine ⟨((m (S - g) : Int) + 1, (g - 1) &&& S), ⟨nx1, nxt _ (.inl ⟨rfl, .inl h3⟩), fun _ => ⟨m (S - g) + 1, by simp, hdv⟩, by simp only []; omega, by simp only []; omega⟩, nx2, ?_⟩
          (refine wk_le ?_ ?_ ?_; (focus (simp [W8, leTm, leAV, AV.under, underL, ints, Work.under, tabB_under]; done)); (focus (simp [leL, OB.under, underL, AV.under, ints, Work.under, tabB_under]; done)); (focus (simp; done)))
        · repeat' first | simp (disch := omega) only [SX0, SX1, SX2, SX3, SX4, SX5, SX6, SX7, SX8, SU0, SY0, SY1, Nat.reduceAdd, Nat.reduceMul, Nat.reduceSub, Nat.reduceLeDiff, Nat.reduceEqDiff, Nat.reduceLT, Nat.reduceBEq, ↓reduceIte, Int.reduceLE, Int.reduceLT, Int.reduceToNat, Int.reduceNeg, reduceCtorEq, Int.reduceEq, SF0, SF1, SF2, DBka0, DAlh0, DHb0, DHb1, DHa0, DCg0, DCe0, DCe1, DCe2, DDb0, DBc0, DBc1, DDe0, DAlv0, DBla0, gS] | refine req (by omega) ?_ | fail
          refine br_dec (fun h4 => ?_) (fun h4 => ?_)
          · repeat' first | simp (disch := omega) only [SX0, SX1, SX2, SX3, SX4, SX5, SX6, SX7, SX8, SU0, SY0, SY1, Nat.reduceAdd, Nat.reduceMul, Nat.reduceSub, Nat.reduceLeDiff, Nat.reduceEqDiff, Nat.reduceLT, Nat.reduceBEq, ↓reduceIte, Int.reduceLE, Int.reduceLT, Int.reduceToNat, Int.reduceNeg, reduceCtorEq, Int.reduceEq, SF0, SF1, SF2, DBka0, DAlh0, DHb0, DHb1, DHa0, DCg0, DCe0, DCe1, DCe2, DDb0, DBc0, DBc1, DDe0, DAlv0, DBla0, gS, upd', eg, eB] | refine req (by omega) ?_ | fail
            refine ⟨((m (S - g) : Int) + 1, (g - 1) &&& S), ⟨nx1, nxt _ (.inl ⟨rfl, .inr (by omega)⟩), fun _ => ⟨m (S - g) + 1, by simp, hdv⟩, by simp only []; omega, by simp only []; omega⟩, nx2, ?_⟩
            (refine wk_le ?_ ?_ ?_; (focus (simp [W8, leTm, leAV, AV.under, underL, ints, Work.under, tabB_under]; done)); (focus (simp [leL, OB.under, underL, AV.under, ints, Work.under, tabB_under]; done)); (focus (simp; done)))
          · repeat' first | simp (disch := omega) only [SX0, SX1, SX2, SX3, SX4, SX5, SX6, SX7, SX8, SU0, SY0, SY1, Nat.reduceAdd, Nat.reduceMul, Nat.reduceSub, Nat.reduceLeDiff, Nat.reduceEqDiff, Nat.reduceLT, Nat.reduceBEq, ↓reduceIte, Int.reduceLE, Int.reduceLT, Int.reduceToNat, Int.reduceNeg, reduceCtorEq, Int.reduceEq, SF0, SF1, SF2, DBka0, DAlh0, DHb0, DHb1, DHa0, DCg0, DCe0, DCe1, DCe2, DDb0, DBc0, DBc1, DDe0, DAlv0, DBla0, gS, upd', eg, eB] | refine req (by omega) ?_ | fail
            refine ⟨(b, (g - 1) &&& S), ⟨nx1, nxt _ (.inr ⟨rfl, by omega, by omega⟩), hg3, hg4, hg5⟩, nx2, ?_⟩
            (refine wk_le ?_ ?_ ?_; (focus (simp [W8, leTm, leAV, AV.under, underL, ints, Work.under, tabB_under]; done)); (focus (simp [leL, OB.under, underL, AV.under, ints, Work.under, tabB_under]; done)); (focus (simp; done)))
      · rw [decide_eq_false hF]
        repeat' first | simp (disch := omega) only [SX0, SX1, SX2, SX3, SX4, SX5, SX6, SX7, SX8, SU0, SY0, SY1, Nat.reduceAdd, Nat.reduceMul, Nat.reduceSub, Nat.reduceLeDiff, Nat.reduceEqDiff, Nat.reduceLT, Nat.reduceBEq, ↓reduceIte, Int.reduceLE, Int.reduceLT, Int.reduceToNat, Int.reduceNeg, reduceCtorEq, Int.reduceEq, SF0, SF1, SF2, DBka0, DAlh0, DHb0, DHb1, DHa0, DCg0, DCe0, DCe1, DCe2, DDb0, DBc0, DBc1, DDe0, DAlv0, DBla0, Int.toNat_natCast, eg, eB] | refine req (by omega) ?_ | fail
        refine ⟨(b, (g - 1) &&& S), ⟨nx1, fun a ha hl hFa => ?_, hg3, hg4, hg5⟩, nx2, ?_⟩
        · rcases Nat.lt_or_ge g a with c | c
          · exact hg2 a ha c hFa
          · exfalso
            rcases Nat.lt_or_ge a g with c2 | c2
            · have := nx3 a ha c2; simp only at hl; omega
            · have : a = g := by omega
              subst this; exact hF hFa
        (refine wk_le ?_ ?_ ?_; (focus (simp [W8, leTm, leAV, AV.under, underL, ints, Work.under, tabB_under]; done)); (focus (simp [leL, OB.under, underL, AV.under, ints, Work.under, tabB_under]; done)); (focus (simp; done)))
    · have g0 : g = 0 := by omega
      subst g0
      have hb0 : 0 ≤ b := by
        obtain ⟨a, c, p1, p2, p3, p4, p5⟩ := (hm S hSN).1.pos (by omega)
        exact (hg2 a p1 p2 p3).1
      obtain ⟨c, rfl, hc⟩ := hg3 hb0
      have hle : LeastD F S c := ⟨hc, fun c' hc' => by
        obtain ⟨a, c2, p1, p2, p3, p4, p5⟩ := hc'.pos (by omega)
        have q1 := (hg2 a p1 p2 p3).2
        have q2 := (hm (S - a) (by omega)).2 c2 p4
        omega⟩
      have ec : c = m S := hle.uniq (hm S hSN)
      subst ec
      rw [rowF_set hSN]
      repeat' first | simp (disch := omega) only [SX0, SX1, SX2, SX3, SX4, SX5, SX6, SX7, SX8, SU0, SY0, SY1, Nat.reduceAdd, Nat.reduceMul, Nat.reduceSub, Nat.reduceLeDiff, Nat.reduceEqDiff, Nat.reduceLT, Nat.reduceBEq, ↓reduceIte, Int.reduceLE, Int.reduceLT, Int.reduceToNat, Int.reduceNeg, reduceCtorEq, Int.reduceEq, SF0, SF1, SF2, DBka0, DAlh0, DHb0, DHb1, DHa0, DCg0, DCe0, DCe1, DCe2, DDb0, DBc0, DBc1, DDe0, DAlv0, DBla0] | refine req (by omega) ?_ | fail
      refine ⟨S + 1, ⟨by omega, by omega⟩, by omega, ?_⟩
      (refine wk_le ?_ ?_ ?_; (focus (simp [W8, leTm, leAV, AV.under, underL, ints, Work.under, tabB_under]; done)); (focus (simp [leL, OB.under, underL, AV.under, ints, Work.under, tabB_under]; done)); (focus (simp; done)))
  · have e : S = N := by omega
    subst e
    have eS : (S : Int) - 1 = ((S - 1 : Nat) : Int) := by omega
    have gL : (rowF m S S)[S - 1]? = some (m (S - 1) : Int) := rowF_get (by omega) (by omega)
    have hrl := rowF_len m S S
    repeat' first | simp (disch := omega) only [SX0, SX1, SX2, SX3, SX4, SX5, SX6, SX7, SX8, SU0, SY0, SY1, Nat.reduceAdd, Nat.reduceMul, Nat.reduceSub, Nat.reduceLeDiff, Nat.reduceEqDiff, Nat.reduceLT, Nat.reduceBEq, ↓reduceIte, Int.reduceLE, Int.reduceLT, Int.reduceToNat, Int.reduceNeg, reduceCtorEq, Int.reduceEq, SF0, SF1, SF2, DBka0, DAlh0, DHb0, DHb1, DHa0, DCg0, DCe0, DCe1, DCe2, DDb0, DBc0, DBc1, DDe0, DAlv0, DBla0, Int.toNat_natCast, eN, eS, gL] | refine req (by omega) ?_ | fail
    exact fin_ks [0, 1, 2] (.val (.int .i64 (m (S - 1)))) [.cells k.cs, .cells (tabB f0), .cells [.ptr 1 0]] ⟨rfl, rfl⟩ (by simp [AV.ren, nameK]) (by simp [keepL, nameK, AV.ren, renL, ints, ob_cells, Work.rend, tabB_rend]) (by simp) (by simp) (by simp)

end Go.Pc
