/- What sets of panes can be cut: the program's table. -/
import Derived.Test.YtkcpcmobmalijaaBlb
import Derived.Test.YtkcpcmobmalijaaMa
set_option linter.unusedSimpArgs false
set_option linter.unusedVariables false
namespace Go.Pc
open Go Go.Proofs

theorem ways_pos {q : Pane} {w h : Int} (hq : q.ok) (hw : 0 ≤ w ∧ w ≤ 200) (hh : 0 ≤ h ∧ h ≤ 200) : (if waysOk q w h then ways q w h else -1) = ways q w h ∧ (0 < ways q w h ↔ wayOk q w h) ∧ 0 ≤ ways q w h ∧ ways q w h ≤ 2 := by
  rw [if_pos ⟨hq, hw, hh⟩]
  unfold ways wayOk
  refine ⟨rfl, ?_, ?_⟩
  · by_cases c1 : q.W ≤ w ∧ q.H ≤ h <;> by_cases c2 : q.Tu = true ∧ q.W ≠ q.H ∧ q.H ≤ w ∧ q.W ≤ h <;> simp [c1, c2]
  · split <;> split <;> omega

/-- What the first pass writes. -/
noncomputable def p1B (k : Work) (s w h : Nat) : Bool := decide (s = 0) || partsB k s w h
theorem p1_zero {k : Work} {w h : Nat} (hw : 1 ≤ w) (hh : 1 ≤ h) : p1B k 0 w h = cutB k 0 w h := by
  rw [cutB_iff.2 (.zero w h hw hh)]
  simp [p1B]
theorem p1_parts {k : Work} (hk : k.ok) {s w h : Nat} (h0 : 0 < s) (hs : ∀ i, i < k.Ps.length → s ≠ 2 ^ i) : p1B k s w h = cutB k s w h := by
  have e : p1B k s w h = partsB k s w h := by unfold p1B; simp; omega
  rw [e, Bool.eq_iff_iff, partsB_iff, cutB_iff, cut_parts hk h0 hs]

theorem tabB_put' {f : Nat → Nat → Nat → Bool} {s w h : Nat} (hs : s < 16) (hw : w < 17) (hh : h < 17) (m : Bool) : (tabB f).take (s * 289 + w * 17 + h) ++ [.val (.bool m)] ++ (tabB f).drop (s * 289 + w * 17 + h + 1) = tabB (updB f s w h m) := by
  rw [List.append_assoc, List.singleton_append]
  exact tabB_put hs hw hh m

theorem e_setsOf : Enters Try.prog 88 := enters_of Try.func88 (by kernel_rfl) (by kernel_rfl)
set_option maxRecDepth 16000 in
set_option maxHeartbeats 8000000 in
theorem setsOf_c (k : Work) (W H : Nat) (hk : k.ok) (hkW : k.W = W) (hkH : k.H = H) (hW : W ≤ 16) (hH : H ≤ 16) (hn : k.Ps.length ≤ 4) :
    ACalls Try.prog 88 [.agg k.cs] [] [] (fun r L => ∃ f : Nat → Nat → Nat → Bool, r = .ptr 0 0 ∧ L = [.cells (tabB f)] ∧ ∀ s w h, s < 2 ^ k.Ps.length → 1 ≤ w → w ≤ W → 1 ≤ h → h ≤ H → f s w h = cutB k s w h) := by
  have hN1 : 1 ≤ 2 ^ k.Ps.length := Nat.one_le_two_pow
  have hN2 : 2 ^ k.Ps.length ≤ 2 ^ 4 := Nat.pow_le_pow_right (by omega) hn
  have eN := shl_val (n := k.Ps.length) (by omega)
  generalize hN : 2 ^ k.Ps.length = N at *
  refine acalls_tm T_tt Try.func88 rfl e_setsOf 87 rfl (W8 _ .any .any .any .any .any .any .any (W8 .any .any .any .any .any .any .any .any (W8 .any .any .any .any .any .any .any .any (W8 .any .any .any .any .any .any .any .any (W8 .any .any .any .any .any .any .any .any (W8 .any .any .any .any .any .any .any .any (W8 .any .any .any .any .any .any .any .any (W8 .any .any .any .any .any .any .any .any (W8 .any .any .any .any .any .any .any .any (W8 .any .any .any .any .any .any .any .any (W8 .any .any .any .any .any .any .any .any []))))))))))) rfl (rv := [.tmp 2]) rfl (sx_sound (bl := []) T_tt _ _ _ ?_)
  repeat' first | simp (disch := omega) only [SX0, SX1, SX2, SX3, SX4, SX5, SX6, SX7, SX8, SU0, SY0, SY1, Nat.reduceAdd, Nat.reduceMul, Nat.reduceSub, Nat.reduceLeDiff, Nat.reduceEqDiff, Nat.reduceLT, Nat.reduceBEq, ↓reduceIte, Int.reduceLE, Int.reduceLT, Int.reduceToNat, Int.reduceNeg, reduceCtorEq, Int.reduceEq, SF0, SF1, SF2, DBla0, DBka0, DAlh0, DHb0, DHb1, DHa0, DCg0, DCe0, DCe1, DCe2, DDb0, DBc0, DBc1, DDe0, DAlv0, Int.toNat_natCast, eN] | refine req (by omega) ?_ | fail
  have z0 : List.map AV.val (List.replicate 4624 (.bool false)) = tabB (fun _ _ _ => false) := by rw [List.map_replicate]; exact tabB_zero
  rw [z0]
  with_reducible refine awp_loop_h (G := (Nat → Nat → Nat → Bool) × Nat) 4 84 (fun g => [(15, .val (.int .i64 N)), (16, .val (.int .i64 g.2))]) (fun g => [.cells k.cs, .cells (tabB g.1)]) (fun g => g.2 ≤ N ∧ ∀ s w h, s < g.2 → 1 ≤ w → w ≤ W → 1 ≤ h → h ≤ H → g.1 s w h = cutB k s w h) (fun g => N - g.2) ((fun _ _ _ => false), 0) ⟨Nat.zero_le _, fun s w h hs => absurd hs (Nat.not_lt_zero _)⟩ ?_ (fun g hg => ?_)
  · simp (disch := omega) only [SX0, SX1, SX2, SX3, SX4, SX5, SX6, SX7, SX8, SU0, SY0, SY1, Nat.reduceAdd, Nat.reduceMul, Nat.reduceSub, Nat.reduceLeDiff, Nat.reduceEqDiff, Nat.reduceLT, Nat.reduceBEq, ↓reduceIte, Int.reduceLE, Int.reduceLT, Int.reduceToNat, Int.reduceNeg, reduceCtorEq, Int.reduceEq, SF0, SF1, SF2, DBla0, DBka0, DAlh0, DHb0, DHb1, DHa0, DCg0, DCe0, DCe1, DCe2, DDb0, DBc0, DBc1, DDe0, DAlv0]
    (refine wk_le ?_ ?_ ?_; (focus (simp [W8, leTm, leAV, AV.under, underL, tabB_under, Work.under]; done)); (focus (simp [leL, OB.under, underL, AV.under, tabB_under, Work.under]; done)); (focus (simp; done)))
  obtain ⟨f0, S⟩ := g
  simp only at hg
  obtain ⟨hS, hf0⟩ := hg
  refine sx_sound (bl := []) T_tt _ _ _ ?_
  simp (disch := omega) only [SX0, SX1, SX2, SX3, SX4, SX5, SX6, SX7, SX8, SU0, SY0, SY1, Nat.reduceAdd, Nat.reduceMul, Nat.reduceSub, Nat.reduceLeDiff, Nat.reduceEqDiff, Nat.reduceLT, Nat.reduceBEq, ↓reduceIte, Int.reduceLE, Int.reduceLT, Int.reduceToNat, Int.reduceNeg, reduceCtorEq, Int.reduceEq, SF0, SF1, SF2, DBla0, DBka0, DAlh0, DHb0, DHb1, DHa0, DCg0, DCe0, DCe1, DCe2, DDb0, DBc0, DBc1, DDe0, DAlv0]
  refine br_dec (fun h1 => ?_) (fun h1 => ?_)
  · have hSN : S < N := by omega
    simp (disch := omega) only [SX0, SX1, SX2, SX3, SX4, SX5, SX6, SX7, SX8, SU0, SY0, SY1, Nat.reduceAdd, Nat.reduceMul, Nat.reduceSub, Nat.reduceLeDiff, Nat.reduceEqDiff, Nat.reduceLT, Nat.reduceBEq, ↓reduceIte, Int.reduceLE, Int.reduceLT, Int.reduceToNat, Int.reduceNeg, reduceCtorEq, Int.reduceEq, SF0, SF1, SF2, DBla0, DBka0, DAlh0, DHb0, DHb1, DHa0, DCg0, DCe0, DCe1, DCe2, DDb0, DBc0, DBc1, DDe0, DAlv0]
    with_reducible refine awp_loop_h (G := (Nat → Nat → Nat → Bool) × Nat) 6 82 (fun g => [(5, .val (.int .i64 g.2)), (15, .val (.int .i64 N)), (16, .val (.int .i64 S))]) (fun g => [.cells k.cs, .cells (tabB g.1)]) (fun g => (1 ≤ g.2 ∧ g.2 ≤ W + 1) ∧ (∀ s w h, s < S → 1 ≤ w → w ≤ W → 1 ≤ h → h ≤ H → g.1 s w h = cutB k s w h) ∧ ∀ w h, 1 ≤ w → w < g.2 → 1 ≤ h → h ≤ H → g.1 S w h = p1B k S w h) (fun g => W + 1 - g.2) (f0, 1) ⟨⟨Nat.le_refl _, by simp⟩, hf0, fun w h a b => absurd b (by simp only []; omega)⟩ ?_ (fun g hg => ?_)
    · simp (disch := omega) only [SX0, SX1, SX2, SX3, SX4, SX5, SX6, SX7, SX8, SU0, SY0, SY1, Nat.reduceAdd, Nat.reduceMul, Nat.reduceSub, Nat.reduceLeDiff, Nat.reduceEqDiff, Nat.reduceLT, Nat.reduceBEq, ↓reduceIte, Int.reduceLE, Int.reduceLT, Int.reduceToNat, Int.reduceNeg, reduceCtorEq, Int.reduceEq, SF0, SF1, SF2, DBla0, DBka0, DAlh0, DHb0, DHb1, DHa0, DCg0, DCe0, DCe1, DCe2, DDb0, DBc0, DBc1, DDe0, DAlv0]
      (refine wk_le ?_ ?_ ?_; (focus (simp [W8, leTm, leAV, AV.under, underL, tabB_under, Work.under]; done)); (focus (simp [leL, OB.under, underL, AV.under, tabB_under, Work.under]; done)); (focus (simp; done)))
    obtain ⟨f1, w⟩ := g
    simp only at hg
    obtain ⟨hw, hf1, hp1⟩ := hg
    refine sx_sound (bl := []) T_tt _ _ _ ?_
    simp (disch := omega) only [SX0, SX1, SX2, SX3, SX4, SX5, SX6, SX7, SX8, SU0, SY0, SY1, Nat.reduceAdd, Nat.reduceMul, Nat.reduceSub, Nat.reduceLeDiff, Nat.reduceEqDiff, Nat.reduceLT, Nat.reduceBEq, ↓reduceIte, Int.reduceLE, Int.reduceLT, Int.reduceToNat, Int.reduceNeg, reduceCtorEq, Int.reduceEq, SF0, SF1, SF2, DBla0, DBka0, DAlh0, DHb0, DHb1, DHa0, DCg0, DCe0, DCe1, DCe2, DDb0, DBc0, DBc1, DDe0, DAlv0, hkW]
    refine br_dec (fun h2 => ?_) (fun h2 => ?_)
    · simp (disch := omega) only [SX0, SX1, SX2, SX3, SX4, SX5, SX6, SX7, SX8, SU0, SY0, SY1, Nat.reduceAdd, Nat.reduceMul, Nat.reduceSub, Nat.reduceLeDiff, Nat.reduceEqDiff, Nat.reduceLT, Nat.reduceBEq, ↓reduceIte, Int.reduceLE, Int.reduceLT, Int.reduceToNat, Int.reduceNeg, reduceCtorEq, Int.reduceEq, SF0, SF1, SF2, DBla0, DBka0, DAlh0, DHb0, DHb1, DHa0, DCg0, DCe0, DCe1, DCe2, DDb0, DBc0, DBc1, DDe0, DAlv0]
      with_reducible refine awp_loop_h (G := (Nat → Nat → Nat → Bool) × Nat) 7 81 (fun g => [(6, .val (.int .i64 g.2)), (15, .val (.int .i64 N)), (16, .val (.int .i64 S))]) (fun g => [.cells k.cs, .cells (tabB g.1)]) (fun g => (1 ≤ g.2 ∧ g.2 ≤ H + 1) ∧ (∀ s w h, s < S → 1 ≤ w → w ≤ W → 1 ≤ h → h ≤ H → g.1 s w h = cutB k s w h) ∧ (∀ w' h, 1 ≤ w' → w' < w → 1 ≤ h → h ≤ H → g.1 S w' h = p1B k S w' h) ∧ ∀ h, 1 ≤ h → h < g.2 → g.1 S w h = p1B k S w h) (fun g => H + 1 - g.2) (f1, 1) ⟨⟨Nat.le_refl _, by simp⟩, hf1, hp1, fun h a b => absurd b (by simp only []; omega)⟩ ?_ (fun g hg => ?_)
      · simp (disch := omega) only [SX0, SX1, SX2, SX3, SX4, SX5, SX6, SX7, SX8, SU0, SY0, SY1, Nat.reduceAdd, Nat.reduceMul, Nat.reduceSub, Nat.reduceLeDiff, Nat.reduceEqDiff, Nat.reduceLT, Nat.reduceBEq, ↓reduceIte, Int.reduceLE, Int.reduceLT, Int.reduceToNat, Int.reduceNeg, reduceCtorEq, Int.reduceEq, SF0, SF1, SF2, DBla0, DBka0, DAlh0, DHb0, DHb1, DHa0, DCg0, DCe0, DCe1, DCe2, DDb0, DBc0, DBc1, DDe0, DAlv0]
        (refine wk_le ?_ ?_ ?_; (focus (simp [W8, leTm, leAV, AV.under, underL, tabB_under, Work.under]; done)); (focus (simp [leL, OB.under, underL, AV.under, tabB_under, Work.under]; done)); (focus (simp; done)))
      obtain ⟨f2, h⟩ := g
      simp only at hg
      obtain ⟨hh, hf2, hp2, hp3⟩ := hg
      refine sx_sound (bl := []) T_tt _ _ _ ?_
      simp (disch := omega) only [SX0, SX1, SX2, SX3, SX4, SX5, SX6, SX7, SX8, SU0, SY0, SY1, Nat.reduceAdd, Nat.reduceMul, Nat.reduceSub, Nat.reduceLeDiff, Nat.reduceEqDiff, Nat.reduceLT, Nat.reduceBEq, ↓reduceIte, Int.reduceLE, Int.reduceLT, Int.reduceToNat, Int.reduceNeg, reduceCtorEq, Int.reduceEq, SF0, SF1, SF2, DBla0, DBka0, DAlh0, DHb0, DHb1, DHa0, DCg0, DCe0, DCe1, DCe2, DDb0, DBc0, DBc1, DDe0, DAlv0, hkH]
      refine br_dec (fun h3 => ?_) (fun h3 => ?_)
      · have put := tabB_put' (f := f2) (s := S) (w := w) (h := h) (by omega) (by omega) (by omega)
        have nxt : ∀ m, m = p1B k S w h → (∀ s w' h', s < S → 1 ≤ w' → w' ≤ W → 1 ≤ h' → h' ≤ H → updB f2 S w h m s w' h' = cutB k s w' h') ∧ (∀ w' h', 1 ≤ w' → w' < w → 1 ≤ h' → h' ≤ H → updB f2 S w h m S w' h' = p1B k S w' h') ∧ ∀ h', 1 ≤ h' → h' < h + 1 → updB f2 S w h m S w h' = p1B k S w h' := fun m hm => by
          unfold updB
          refine ⟨fun s w' h' a b c d e => ?_, fun w' h' a b c d => ?_, fun h' a b => ?_⟩
          · rw [if_neg (by omega)]; exact hf2 s w' h' a b c d e
          · rw [if_neg (by omega)]; exact hp2 w' h' a b c d
          · by_cases e : h' = h
            · subst e; rw [if_pos ⟨rfl, rfl, rfl⟩, hm]
            · rw [if_neg (by omega)]; exact hp3 h' a (by omega)
        simp (disch := omega) only [SX0, SX1, SX2, SX3, SX4, SX5, SX6, SX7, SX8, SU0, SY0, SY1, Nat.reduceAdd, Nat.reduceMul, Nat.reduceSub, Nat.reduceLeDiff, Nat.reduceEqDiff, Nat.reduceLT, Nat.reduceBEq, ↓reduceIte, Int.reduceLE, Int.reduceLT, Int.reduceToNat, Int.reduceNeg, reduceCtorEq, Int.reduceEq, SF0, SF1, SF2, DBla0, DBka0, DAlh0, DHb0, DHb1, DHa0, DCg0, DCe0, DCe1, DCe2, DDb0, DBc0, DBc1, DDe0, DAlv0]
        refine awp_draw (bl := []) T_tt mixed 17 (by decide) (by kernel_rfl) (.inr ⟨by kernel_rfl, by kernel_rfl⟩) (by kernel_rfl) ?_
        repeat' first | simp (disch := omega) only [SX0, SX1, SX2, SX3, SX4, SX5, SX6, SX7, SX8, SU0, SY0, SY1, Nat.reduceAdd, Nat.reduceMul, Nat.reduceSub, Nat.reduceLeDiff, Nat.reduceEqDiff, Nat.reduceLT, Nat.reduceBEq, ↓reduceIte, Int.reduceLE, Int.reduceLT, Int.reduceToNat, Int.reduceNeg, reduceCtorEq, Int.reduceEq, SF0, SF1, SF2, DBla0, DBka0, DAlh0, DHb0, DHb1, DHa0, DCg0, DCe0, DCe1, DCe2, DDb0, DBc0, DBc1, DDe0, DAlv0] | refine req (by omega) ?_ | fail
        refine br_dec (fun h4 => ?_) (fun h4 => ?_)
        · have hm : true = p1B k S w h := by unfold p1B; rw [decide_eq_true (by omega)]; rfl
          repeat' first | simp (disch := omega) only [SX0, SX1, SX2, SX3, SX4, SX5, SX6, SX7, SX8, SU0, SY0, SY1, Nat.reduceAdd, Nat.reduceMul, Nat.reduceSub, Nat.reduceLeDiff, Nat.reduceEqDiff, Nat.reduceLT, Nat.reduceBEq, ↓reduceIte, Int.reduceLE, Int.reduceLT, Int.reduceToNat, Int.reduceNeg, reduceCtorEq, Int.reduceEq, SF0, SF1, SF2, DBla0, DBka0, DAlh0, DHb0, DHb1, DHa0, DCg0, DCe0, DCe1, DCe2, DDb0, DBc0, DBc1, DDe0, DAlv0] | refine req (by omega) ?_ | fail
          refine ⟨(updB f2 S w h true, h + 1), ⟨⟨by omega, by simp only []; omega⟩, nxt true hm⟩, by simp only []; omega, ?_⟩
          rw [put]
          (refine wk_le ?_ ?_ ?_; (focus (simp [W8, leTm, leAV, AV.under, underL, tabB_under, Work.under]; done)); (focus (simp [leL, OB.under, underL, AV.under, tabB_under, Work.under]; done)); (focus (simp; done)))
        · have PI := partsInto_c k f2 S w h W H hW hH (by omega) (by omega) (by omega) (by omega) (fun a x y a1 a2 a3 a4 a5 => hf2 a x y a1 a2 a3 a4 a5)
          repeat' first | simp (disch := omega) only [SX0, SX1, SX2, SX3, SX4, SX5, SX6, SX7, SX8, SU0, SY0, SY1, Nat.reduceAdd, Nat.reduceMul, Nat.reduceSub, Nat.reduceLeDiff, Nat.reduceEqDiff, Nat.reduceLT, Nat.reduceBEq, ↓reduceIte, Int.reduceLE, Int.reduceLT, Int.reduceToNat, Int.reduceNeg, reduceCtorEq, Int.reduceEq, SF0, SF1, SF2, DBla0, DBka0, DAlh0, DHb0, DHb1, DHa0, DCg0, DCe0, DCe1, DCe2, DDb0, DBc0, DBc1, DDe0, DAlv0] | refine req (by omega) ?_ | fail
          refine qc_bor PI (by exact ⟨.ptr 1 _ rfl (tabB_pure _), .free _ rfl, .free _ rfl, .free _ rfl, trivial⟩) ?_
          have hm : partsB k S w h = p1B k S w h := by unfold p1B; rw [decide_eq_false (by omega)]; rfl
          repeat' first | simp (disch := omega) only [SX0, SX1, SX2, SX3, SX4, SX5, SX6, SX7, SX8, SU0, SY0, SY1, Nat.reduceAdd, Nat.reduceMul, Nat.reduceSub, Nat.reduceLeDiff, Nat.reduceEqDiff, Nat.reduceLT, Nat.reduceBEq, ↓reduceIte, Int.reduceLE, Int.reduceLT, Int.reduceToNat, Int.reduceNeg, reduceCtorEq, Int.reduceEq, SF0, SF1, SF2, DBla0, DBka0, DAlh0, DHb0, DHb1, DHa0, DCg0, DCe0, DCe1, DCe2, DDb0, DBc0, DBc1, DDe0, DAlv0] | refine req (by omega) ?_ | fail
          refine ⟨(updB f2 S w h (partsB k S w h), h + 1), ⟨⟨by omega, by simp only []; omega⟩, nxt _ hm⟩, by simp only []; omega, ?_⟩
          rw [put]
          (refine wk_le ?_ ?_ ?_; (focus (simp [W8, leTm, leAV, AV.under, underL, tabB_under, Work.under]; done)); (focus (simp [leL, OB.under, underL, AV.under, tabB_under, Work.under]; done)); (focus (simp; done)))
      · have hh1 : h = H + 1 := by omega
        subst hh1
        simp (disch := omega) only [SX0, SX1, SX2, SX3, SX4, SX5, SX6, SX7, SX8, SU0, SY0, SY1, Nat.reduceAdd, Nat.reduceMul, Nat.reduceSub, Nat.reduceLeDiff, Nat.reduceEqDiff, Nat.reduceLT, Nat.reduceBEq, ↓reduceIte, Int.reduceLE, Int.reduceLT, Int.reduceToNat, Int.reduceNeg, reduceCtorEq, Int.reduceEq, SF0, SF1, SF2, DBla0, DBka0, DAlh0, DHb0, DHb1, DHa0, DCg0, DCe0, DCe1, DCe2, DDb0, DBc0, DBc1, DDe0, DAlv0]
        refine ⟨(f2, w + 1), ⟨⟨by omega, by simp only []; omega⟩, hf2, fun w' h' a b c d => ?_⟩, by simp only []; omega, ?_⟩
        · by_cases e : w' = w
          · subst e; exact hp3 h' c (by omega)
          · exact hp2 w' h' a (by simp only [] at b; omega) c d
        (refine wk_le ?_ ?_ ?_; (focus (simp [W8, leTm, leAV, AV.under, underL, tabB_under, Work.under]; done)); (focus (simp [leL, OB.under, underL, AV.under, tabB_under, Work.under]; done)); (focus (simp; done)))
    · have hw1 : w = W + 1 := by omega
      subst hw1
      simp (disch := omega) only [SX0, SX1, SX2, SX3, SX4, SX5, SX6, SX7, SX8, SU0, SY0, SY1, Nat.reduceAdd, Nat.reduceMul, Nat.reduceSub, Nat.reduceLeDiff, Nat.reduceEqDiff, Nat.reduceLT, Nat.reduceBEq, ↓reduceIte, Int.reduceLE, Int.reduceLT, Int.reduceToNat, Int.reduceNeg, reduceCtorEq, Int.reduceEq, SF0, SF1, SF2, DBla0, DBka0, DAlh0, DHb0, DHb1, DHa0, DCg0, DCe0, DCe1, DCe2, DDb0, DBc0, DBc1, DDe0, DAlv0]
      with_reducible refine awp_loop_h (G := (Nat → Nat → Nat → Bool) × Nat) 5 83 (fun g => [(15, .val (.int .i64 N)), (16, .val (.int .i64 S)), (49, .sl (k.Ps.map Pane.cs)), (50, .val (.int .i64 k.Ps.length)), (51, .val (.int .i64 g.2))]) (fun g => [.cells k.cs, .cells (tabB g.1)]) (fun g => g.2 ≤ k.Ps.length ∧ (∀ s w h, s < S → 1 ≤ w → w ≤ W → 1 ≤ h → h ≤ H → g.1 s w h = cutB k s w h) ∧ ((∃ i, i < g.2 ∧ S = 2 ^ i) → ∀ w h, 1 ≤ w → w ≤ W → 1 ≤ h → h ≤ H → g.1 S w h = cutB k S w h) ∧ ((¬ ∃ i, i < g.2 ∧ S = 2 ^ i) → ∀ w h, 1 ≤ w → w ≤ W → 1 ≤ h → h ≤ H → g.1 S w h = p1B k S w h)) (fun g => k.Ps.length - g.2) (f1, 0) ⟨Nat.zero_le _, hf1, fun ⟨i, hi, _⟩ => absurd hi (Nat.not_lt_zero _), fun _ w h a b c d => hp1 w h a (by omega) c d⟩ ?_ (fun g hg => ?_)
      · simp (disch := omega) only [SX0, SX1, SX2, SX3, SX4, SX5, SX6, SX7, SX8, SU0, SY0, SY1, Nat.reduceAdd, Nat.reduceMul, Nat.reduceSub, Nat.reduceLeDiff, Nat.reduceEqDiff, Nat.reduceLT, Nat.reduceBEq, ↓reduceIte, Int.reduceLE, Int.reduceLT, Int.reduceToNat, Int.reduceNeg, reduceCtorEq, Int.reduceEq, SF0, SF1, SF2, DBla0, DBka0, DAlh0, DHb0, DHb1, DHa0, DCg0, DCe0, DCe1, DCe2, DDb0, DBc0, DBc1, DDe0, DAlv0]
        (refine wk_le ?_ ?_ ?_; (focus (simp [W8, leTm, leAV, AV.under, underL, tabB_under, Work.under]; done)); (focus (simp [leL, OB.under, underL, AV.under, tabB_under, Work.under]; done)); (focus (simp; done)))
      obtain ⟨f2, i⟩ := g
      simp only at hg
      obtain ⟨hi, hf2, hq1, hq2⟩ := hg
      refine sx_sound (bl := []) T_tt _ _ _ ?_
      simp (disch := omega) only [SX0, SX1, SX2, SX3, SX4, SX5, SX6, SX7, SX8, SU0, SY0, SY1, Nat.reduceAdd, Nat.reduceMul, Nat.reduceSub, Nat.reduceLeDiff, Nat.reduceEqDiff, Nat.reduceLT, Nat.reduceBEq, ↓reduceIte, Int.reduceLE, Int.reduceLT, Int.reduceToNat, Int.reduceNeg, reduceCtorEq, Int.reduceEq, SF0, SF1, SF2, DBla0, DBka0, DAlh0, DHb0, DHb1, DHa0, DCg0, DCe0, DCe1, DCe2, DDb0, DBc0, DBc1, DDe0, DAlv0]
      refine br_dec (fun h3 => ?_) (fun h3 => ?_)
      · obtain ⟨q, hq⟩ := get_lt (l := k.Ps) (i := i) (by omega)
        have hqok := hk.2.2.1 q (List.mem_of_getElem? hq)
        have eI := shl_val (n := i) (by omega)
        have hI2 : 2 ^ i ≤ 2 ^ 4 := Nat.pow_le_pow_right (by omega) (by omega)
        repeat' first | simp (disch := omega) only [SX0, SX1, SX2, SX3, SX4, SX5, SX6, SX7, SX8, SU0, SY0, SY1, Nat.reduceAdd, Nat.reduceMul, Nat.reduceSub, Nat.reduceLeDiff, Nat.reduceEqDiff, Nat.reduceLT, Nat.reduceBEq, ↓reduceIte, Int.reduceLE, Int.reduceLT, Int.reduceToNat, Int.reduceNeg, reduceCtorEq, Int.reduceEq, SF0, SF1, SF2, DBla0, DBka0, DAlh0, DHb0, DHb1, DHa0, DCg0, DCe0, DCe1, DCe2, DDb0, DBc0, DBc1, DDe0, DAlv0, hq, Int.toNat_natCast, eI] | refine req (by omega) ?_ | fail
        refine br_ndec (fun h4 => ?_) (fun h4 => ?_)
        · have hne : S ≠ 2 ^ i := fun e => h4 (by rw [e])
          have ex : (∃ i', i' < i + 1 ∧ S = 2 ^ i') ↔ ∃ i', i' < i ∧ S = 2 ^ i' := ⟨fun ⟨i', a, b⟩ => ⟨i', by
            rcases Nat.lt_or_ge i' i with c | c
            · exact c
            · have : i' = i := by omega
              subst this; exact absurd b hne, b⟩, fun ⟨i', a, b⟩ => ⟨i', by omega, b⟩⟩
          simp (disch := omega) only [SX0, SX1, SX2, SX3, SX4, SX5, SX6, SX7, SX8, SU0, SY0, SY1, Nat.reduceAdd, Nat.reduceMul, Nat.reduceSub, Nat.reduceLeDiff, Nat.reduceEqDiff, Nat.reduceLT, Nat.reduceBEq, ↓reduceIte, Int.reduceLE, Int.reduceLT, Int.reduceToNat, Int.reduceNeg, reduceCtorEq, Int.reduceEq, SF0, SF1, SF2, DBla0, DBka0, DAlh0, DHb0, DHb1, DHa0, DCg0, DCe0, DCe1, DCe2, DDb0, DBc0, DBc1, DDe0, DAlv0]
          refine ⟨(f2, i + 1), ⟨by simp only []; omega, hf2, fun h => hq1 (ex.1 h), fun h => hq2 fun hh => h (ex.2 hh)⟩, by simp only []; omega, ?_⟩
          (refine wk_le ?_ ?_ ?_; (focus (simp [W8, leTm, leAV, AV.under, underL, tabB_under, Work.under]; done)); (focus (simp [leL, OB.under, underL, AV.under, tabB_under, Work.under]; done)); (focus (simp; done)))
        · have hSe : S = 2 ^ i := by have := h4; omega
          have fit : ∀ w h : Nat, cutB k S w h = decide (wayOk q w h) := fun w h => by
            rw [Bool.eq_iff_iff, cutB_iff, decide_eq_true_eq, hSe]
            exact cut_pow hk hq
          simp (disch := omega) only [SX0, SX1, SX2, SX3, SX4, SX5, SX6, SX7, SX8, SU0, SY0, SY1, Nat.reduceAdd, Nat.reduceMul, Nat.reduceSub, Nat.reduceLeDiff, Nat.reduceEqDiff, Nat.reduceLT, Nat.reduceBEq, ↓reduceIte, Int.reduceLE, Int.reduceLT, Int.reduceToNat, Int.reduceNeg, reduceCtorEq, Int.reduceEq, SF0, SF1, SF2, DBla0, DBka0, DAlh0, DHb0, DHb1, DHa0, DCg0, DCe0, DCe1, DCe2, DDb0, DBc0, DBc1, DDe0, DAlv0]
          with_reducible refine awp_loop_h (G := (Nat → Nat → Nat → Bool) × Nat) 10 78 (fun g => [(9, .val (.int .i64 g.2)), (15, .val (.int .i64 N)), (16, .val (.int .i64 S)), (49, .sl (k.Ps.map Pane.cs)), (50, .val (.int .i64 k.Ps.length)), (51, .val (.int .i64 i))]) (fun g => [.cells k.cs, .cells (tabB g.1), .cells q.cs]) (fun g => (1 ≤ g.2 ∧ g.2 ≤ W + 1) ∧ (∀ s w h, s < S → 1 ≤ w → w ≤ W → 1 ≤ h → h ≤ H → g.1 s w h = cutB k s w h) ∧ ∀ w h, 1 ≤ w → w < g.2 → 1 ≤ h → h ≤ H → g.1 S w h = cutB k S w h) (fun g => W + 1 - g.2) (f2, 1) ⟨⟨Nat.le_refl _, by simp⟩, hf2, fun w h a b => absurd b (by simp only []; omega)⟩ ?_ (fun g hg => ?_)
          · simp (disch := omega) only [SX0, SX1, SX2, SX3, SX4, SX5, SX6, SX7, SX8, SU0, SY0, SY1, Nat.reduceAdd, Nat.reduceMul, Nat.reduceSub, Nat.reduceLeDiff, Nat.reduceEqDiff, Nat.reduceLT, Nat.reduceBEq, ↓reduceIte, Int.reduceLE, Int.reduceLT, Int.reduceToNat, Int.reduceNeg, reduceCtorEq, Int.reduceEq, SF0, SF1, SF2, DBla0, DBka0, DAlh0, DHb0, DHb1, DHa0, DCg0, DCe0, DCe1, DCe2, DDb0, DBc0, DBc1, DDe0, DAlv0]
            (refine wk_le ?_ ?_ ?_; (focus (simp [W8, leTm, leAV, AV.under, underL, tabB_under, Work.under, Pane.cs]; done)); (focus (simp [leL, OB.under, underL, AV.under, tabB_under, Work.under, Pane.cs]; done)); (focus (simp; done)))
          obtain ⟨f3, w⟩ := g
          simp only at hg
          obtain ⟨hw', hf3, hp3⟩ := hg
          refine sx_sound (bl := []) T_tt _ _ _ ?_
          simp (disch := omega) only [SX0, SX1, SX2, SX3, SX4, SX5, SX6, SX7, SX8, SU0, SY0, SY1, Nat.reduceAdd, Nat.reduceMul, Nat.reduceSub, Nat.reduceLeDiff, Nat.reduceEqDiff, Nat.reduceLT, Nat.reduceBEq, ↓reduceIte, Int.reduceLE, Int.reduceLT, Int.reduceToNat, Int.reduceNeg, reduceCtorEq, Int.reduceEq, SF0, SF1, SF2, DBla0, DBka0, DAlh0, DHb0, DHb1, DHa0, DCg0, DCe0, DCe1, DCe2, DDb0, DBc0, DBc1, DDe0, DAlv0, hkW]
          refine br_dec (fun h5 => ?_) (fun h5 => ?_)
          · simp (disch := omega) only [SX0, SX1, SX2, SX3, SX4, SX5, SX6, SX7, SX8, SU0, SY0, SY1, Nat.reduceAdd, Nat.reduceMul, Nat.reduceSub, Nat.reduceLeDiff, Nat.reduceEqDiff, Nat.reduceLT, Nat.reduceBEq, ↓reduceIte, Int.reduceLE, Int.reduceLT, Int.reduceToNat, Int.reduceNeg, reduceCtorEq, Int.reduceEq, SF0, SF1, SF2, DBla0, DBka0, DAlh0, DHb0, DHb1, DHa0, DCg0, DCe0, DCe1, DCe2, DDb0, DBc0, DBc1, DDe0, DAlv0]
            with_reducible refine awp_loop_h (G := (Nat → Nat → Nat → Bool) × Nat) 11 77 (fun g => [(10, .val (.int .i64 g.2)), (15, .val (.int .i64 N)), (16, .val (.int .i64 S)), (49, .sl (k.Ps.map Pane.cs)), (50, .val (.int .i64 k.Ps.length)), (51, .val (.int .i64 i))]) (fun g => [.cells k.cs, .cells (tabB g.1), .cells q.cs]) (fun g => (1 ≤ g.2 ∧ g.2 ≤ H + 1) ∧ (∀ s w h, s < S → 1 ≤ w → w ≤ W → 1 ≤ h → h ≤ H → g.1 s w h = cutB k s w h) ∧ (∀ w' h, 1 ≤ w' → w' < w → 1 ≤ h → h ≤ H → g.1 S w' h = cutB k S w' h) ∧ ∀ h, 1 ≤ h → h < g.2 → g.1 S w h = cutB k S w h) (fun g => H + 1 - g.2) (f3, 1) ⟨⟨Nat.le_refl _, by simp⟩, hf3, hp3, fun h a b => absurd b (by simp only []; omega)⟩ ?_ (fun g hg => ?_)
            · simp (disch := omega) only [SX0, SX1, SX2, SX3, SX4, SX5, SX6, SX7, SX8, SU0, SY0, SY1, Nat.reduceAdd, Nat.reduceMul, Nat.reduceSub, Nat.reduceLeDiff, Nat.reduceEqDiff, Nat.reduceLT, Nat.reduceBEq, ↓reduceIte, Int.reduceLE, Int.reduceLT, Int.reduceToNat, Int.reduceNeg, reduceCtorEq, Int.reduceEq, SF0, SF1, SF2, DBla0, DBka0, DAlh0, DHb0, DHb1, DHa0, DCg0, DCe0, DCe1, DCe2, DDb0, DBc0, DBc1, DDe0, DAlv0]
              (refine wk_le ?_ ?_ ?_; (focus (simp [W8, leTm, leAV, AV.under, underL, tabB_under, Work.under, Pane.cs]; done)); (focus (simp [leL, OB.under, underL, AV.under, tabB_under, Work.under, Pane.cs]; done)); (focus (simp; done)))
            obtain ⟨f4, h⟩ := g
            simp only at hg
            obtain ⟨hh', hf4, hp4, hp5⟩ := hg
            refine sx_sound (bl := []) T_tt _ _ _ ?_
            simp (disch := omega) only [SX0, SX1, SX2, SX3, SX4, SX5, SX6, SX7, SX8, SU0, SY0, SY1, Nat.reduceAdd, Nat.reduceMul, Nat.reduceSub, Nat.reduceLeDiff, Nat.reduceEqDiff, Nat.reduceLT, Nat.reduceBEq, ↓reduceIte, Int.reduceLE, Int.reduceLT, Int.reduceToNat, Int.reduceNeg, reduceCtorEq, Int.reduceEq, SF0, SF1, SF2, DBla0, DBka0, DAlh0, DHb0, DHb1, DHa0, DCg0, DCe0, DCe1, DCe2, DDb0, DBc0, DBc1, DDe0, DAlv0, hkH]
            refine br_dec (fun h6 => ?_) (fun h6 => ?_)
            · have put := tabB_put' (f := f4) (s := S) (w := w) (h := h) (by omega) (by omega) (by omega)
              have WI := waysIn_c q w h
              obtain ⟨w1, w2, w3, w4⟩ := ways_pos (q := q) (w := (w : Int)) (h := (h : Int)) hqok (by omega) (by omega)
              rw [w1] at WI
              have ewp : decide (0 < ways q (w : Int) (h : Int)) = cutB k S w h := by rw [fit]; exact decide_eq_decide.2 w2
              simp (disch := omega) only [SX0, SX1, SX2, SX3, SX4, SX5, SX6, SX7, SX8, SU0, SY0, SY1, Nat.reduceAdd, Nat.reduceMul, Nat.reduceSub, Nat.reduceLeDiff, Nat.reduceEqDiff, Nat.reduceLT, Nat.reduceBEq, ↓reduceIte, Int.reduceLE, Int.reduceLT, Int.reduceToNat, Int.reduceNeg, reduceCtorEq, Int.reduceEq, SF0, SF1, SF2, DBla0, DBka0, DAlh0, DHb0, DHb1, DHa0, DCg0, DCe0, DCe1, DCe2, DDb0, DBc0, DBc1, DDe0, DAlv0]
              refine awp_draw (bl := []) T_tt mixed 13 (by decide) (by kernel_rfl) (.inr ⟨by kernel_rfl, by kernel_rfl⟩) (by kernel_rfl) ?_
              repeat' first | simp (disch := omega) only [SX0, SX1, SX2, SX3, SX4, SX5, SX6, SX7, SX8, SU0, SY0, SY1, Nat.reduceAdd, Nat.reduceMul, Nat.reduceSub, Nat.reduceLeDiff, Nat.reduceEqDiff, Nat.reduceLT, Nat.reduceBEq, ↓reduceIte, Int.reduceLE, Int.reduceLT, Int.reduceToNat, Int.reduceNeg, reduceCtorEq, Int.reduceEq, SF0, SF1, SF2, DBla0, DBka0, DAlh0, DHb0, DHb1, DHa0, DCg0, DCe0, DCe1, DCe2, DDb0, DBc0, DBc1, DDe0, DAlv0] | refine req (by omega) ?_ | fail
              refine qc_one WI (by simp [freeL, AV.free, Pane.free]) ?_
              repeat' first | simp (disch := omega) only [SX0, SX1, SX2, SX3, SX4, SX5, SX6, SX7, SX8, SU0, SY0, SY1, Nat.reduceAdd, Nat.reduceMul, Nat.reduceSub, Nat.reduceLeDiff, Nat.reduceEqDiff, Nat.reduceLT, Nat.reduceBEq, ↓reduceIte, Int.reduceLE, Int.reduceLT, Int.reduceToNat, Int.reduceNeg, reduceCtorEq, Int.reduceEq, SF0, SF1, SF2, DBla0, DBka0, DAlh0, DHb0, DHb1, DHa0, DCg0, DCe0, DCe1, DCe2, DDb0, DBc0, DBc1, DDe0, DAlv0, ewp] | refine req (by omega) ?_ | fail
              refine ⟨(updB f4 S w h (cutB k S w h), h + 1), ⟨⟨by omega, by simp only []; omega⟩, fun s w' h' a b c d e => ?_, fun w' h' a b c d => ?_, fun h' a b => ?_⟩, by simp only []; omega, ?_⟩
              · simp only [updB]; rw [if_neg (by omega)]; exact hf4 s w' h' a b c d e
              · simp only [updB]; rw [if_neg (by omega)]; exact hp4 w' h' a b c d
              · simp only [updB]
                by_cases e : h' = h
                · subst e; simp
                · rw [if_neg (by omega)]; exact hp5 h' a (by simp only [] at b; omega)
              rw [put]
              (refine wk_le ?_ ?_ ?_; (focus (simp [W8, leTm, leAV, AV.under, underL, tabB_under, Work.under, Pane.cs]; done)); (focus (simp [leL, OB.under, underL, AV.under, tabB_under, Work.under, Pane.cs]; done)); (focus (simp; done)))
            · have hh1 : h = H + 1 := by omega
              subst hh1
              simp (disch := omega) only [SX0, SX1, SX2, SX3, SX4, SX5, SX6, SX7, SX8, SU0, SY0, SY1, Nat.reduceAdd, Nat.reduceMul, Nat.reduceSub, Nat.reduceLeDiff, Nat.reduceEqDiff, Nat.reduceLT, Nat.reduceBEq, ↓reduceIte, Int.reduceLE, Int.reduceLT, Int.reduceToNat, Int.reduceNeg, reduceCtorEq, Int.reduceEq, SF0, SF1, SF2, DBla0, DBka0, DAlh0, DHb0, DHb1, DHa0, DCg0, DCe0, DCe1, DCe2, DDb0, DBc0, DBc1, DDe0, DAlv0]
              refine ⟨(f4, w + 1), ⟨⟨by omega, by simp only []; omega⟩, hf4, fun w' h' a b c d => ?_⟩, by simp only []; omega, ?_⟩
              · by_cases e : w' = w
                · subst e; exact hp5 h' c (by omega)
                · exact hp4 w' h' a (by simp only [] at b; omega) c d
              (refine wk_le ?_ ?_ ?_; (focus (simp [W8, leTm, leAV, AV.under, underL, tabB_under, Work.under, Pane.cs]; done)); (focus (simp [leL, OB.under, underL, AV.under, tabB_under, Work.under, Pane.cs]; done)); (focus (simp; done)))
          · have hw1 : w = W + 1 := by omega
            subst hw1
            simp (disch := omega) only [SX0, SX1, SX2, SX3, SX4, SX5, SX6, SX7, SX8, SU0, SY0, SY1, Nat.reduceAdd, Nat.reduceMul, Nat.reduceSub, Nat.reduceLeDiff, Nat.reduceEqDiff, Nat.reduceLT, Nat.reduceBEq, ↓reduceIte, Int.reduceLE, Int.reduceLT, Int.reduceToNat, Int.reduceNeg, reduceCtorEq, Int.reduceEq, SF0, SF1, SF2, DBla0, DBka0, DAlh0, DHb0, DHb1, DHa0, DCg0, DCe0, DCe1, DCe2, DDb0, DBc0, DBc1, DDe0, DAlv0]
            refine ⟨(f3, i + 1), ⟨by simp only []; omega, hf3, fun _ w' h' a b c d => hp3 w' h' a (by omega) c d, fun hn => absurd ⟨i, by simp only []; omega, hSe⟩ hn⟩, by simp only []; omega, ?_⟩
            (refine wk_le ?_ ?_ ?_; (focus (simp [W8, leTm, leAV, AV.under, underL, tabB_under, Work.under, Pane.cs]; done)); (focus (simp [leL, OB.under, underL, AV.under, tabB_under, Work.under, Pane.cs]; done)); (focus (simp; done)))
      · have hi1 : i = k.Ps.length := by omega
        subst hi1
        simp (disch := omega) only [SX0, SX1, SX2, SX3, SX4, SX5, SX6, SX7, SX8, SU0, SY0, SY1, Nat.reduceAdd, Nat.reduceMul, Nat.reduceSub, Nat.reduceLeDiff, Nat.reduceEqDiff, Nat.reduceLT, Nat.reduceBEq, ↓reduceIte, Int.reduceLE, Int.reduceLT, Int.reduceToNat, Int.reduceNeg, reduceCtorEq, Int.reduceEq, SF0, SF1, SF2, DBla0, DBka0, DAlh0, DHb0, DHb1, DHa0, DCg0, DCe0, DCe1, DCe2, DDb0, DBc0, DBc1, DDe0, DAlv0]
        refine ⟨(f2, S + 1), ⟨by simp only []; omega, fun s w h a b c d e => ?_⟩, by simp only []; omega, ?_⟩
        · by_cases es : s = S
          · subst es
            by_cases ex : ∃ i, i < k.Ps.length ∧ s = 2 ^ i
            · exact hq1 ex w h b c d e
            · simp only
              rw [hq2 ex w h b c d e]
              rcases Nat.eq_zero_or_pos s with z | z
              · subst z; exact p1_zero b d
              · exact p1_parts hk z fun i hi he => ex ⟨i, hi, he⟩
          · exact hf2 s w h (by simp only [] at a; omega) b c d e
        (refine wk_le ?_ ?_ ?_; (focus (simp [W8, leTm, leAV, AV.under, underL, tabB_under, Work.under]; done)); (focus (simp [leL, OB.under, underL, AV.under, tabB_under, Work.under]; done)); (focus (simp; done)))
  · have e : S = N := by omega
    subst e
    simp (disch := omega) only [SX0, SX1, SX2, SX3, SX4, SX5, SX6, SX7, SX8, SU0, SY0, SY1, Nat.reduceAdd, Nat.reduceMul, Nat.reduceSub, Nat.reduceLeDiff, Nat.reduceEqDiff, Nat.reduceLT, Nat.reduceBEq, ↓reduceIte, Int.reduceLE, Int.reduceLT, Int.reduceToNat, Int.reduceNeg, reduceCtorEq, Int.reduceEq, SF0, SF1, SF2, DBla0, DBka0, DAlh0, DHb0, DHb1, DHa0, DCg0, DCe0, DCe1, DCe2, DDb0, DBc0, DBc1, DDe0, DAlv0]
    exact fin_ks [1] (.ptr 0 0) [.cells (tabB f0)] ⟨f0, rfl, rfl, hf0⟩ (by simp [AV.ren, nameK]) (by simp [keepL, nameK, ob_cells, tabB_rend]) (by simp) (by simp) (by simp)

end Go.Pc
