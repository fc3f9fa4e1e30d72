/- Texts that are read: lines and orders, in the program. -/
import Derived.Test.YtajkeegikligcaaDoorCre
set_option linter.unusedSimpArgs false
set_option linter.unusedVariables false
namespace Go.Pc
open Go Go.Proofs Go.Lib Go.RowKit

theorem e_readLineI : Enters Tryd.prog 41 := enters_of Tryd.func41 (by kernel_rfl) (by kernel_rfl)
set_option maxRecDepth 8000 in
set_option maxHeartbeats 4000000 in
theorem readLine_k (s : List UInt8) (hs : s.length ≤ 1048576) : ACallsK Tryd.prog KShp 41 [.val (.string (strB s))] [] [] (fun r L => r = lnR (rlI (sp 32 s)) ∧ L = []) := by
  have S := KShp.stays
  have H := KShp.shrinks
  have hsp := split_k s 32 hs
  have hlen := sp_len 32 s
  have hmem : ∀ t ∈ sp 32 s, t.length ≤ 1048576 := fun t ht => Nat.le_trans (sp_mem_len ht) hs
  have sl : (strs (sp 32 s)).length = (sp 32 s).length := by simp [strs]
  have c32 : (⟨#[32]⟩ : ByteArray) = strB [32] := rfl
  have ct : (⟨#[116, 117, 114, 110, 115]⟩ : ByteArray) = strB (wordT true) := rfl
  have cf : (⟨#[102, 105, 120, 101, 100]⟩ : ByteArray) = strB (wordT false) := rfl
  refine ⟨e_readLineI, ?_⟩
  generalize sp 32 s = ws at *
  refine callsK_intro (args := [.val (.string (strB s))]) (L0 := []) (R := fun r L => r = lnR (rlI ws) ∧ L = []) T_tt Tryd.func41 rfl 64 rfl (rv := [.cell 2 59, .tmp 3]) rfl (W8 _ .any .any .any .any .any .any .any (W8 .any .any .any .any .any .any .any .any (W8 .any .any .any .any .any .any .any .any (W8 .any .any .any .any .any .any .any .any (W8 .any .any .any .any .any .any .any .any (W8 .any .any .any .any .any .any .any .any (W8 .any .any .any .any .any .any .any .any (W8 .any .any .any .any .any .any .any .any [.any])))))))) rfl ?_
  refine awpK_seq S (sx_sound (bl := []) T_tt _ _ _ ?_)
  simp (disch := omega) only [SX0, SX1, SX2, SX3, SX4, SX5, SX6, SX7, SX8, SU0, SY0, SY1, Nat.reduceAdd, Nat.reduceMul, Nat.reduceSub, Nat.reduceLeDiff, Nat.reduceEqDiff, Nat.reduceLT, Nat.reduceBEq, ↓reduceIte, Int.reduceLE, Int.reduceLT, Int.reduceToNat, Int.reduceNeg, reduceCtorEq, Int.reduceEq, SF0, SF1, SF2, DCrd0, DCqa0, DCqa1, DCqa2, DCe0, DCe1, DCe2, DDb0, DBc0, DBc1, DLa0, DCg0, DCqk0, DCpd0, DCrk0, DAlh0]
  refine kthen_n (awpK_seqK S (awpK_region (bl := []) S T_tt 1 ?_))
  simp (disch := omega) only [SX0, SX1, SX2, SX3, SX4, SX5, SX6, SX7, SX8, SU0, SY0, SY1, Nat.reduceAdd, Nat.reduceMul, Nat.reduceSub, Nat.reduceLeDiff, Nat.reduceEqDiff, Nat.reduceLT, Nat.reduceBEq, ↓reduceIte, Int.reduceLE, Int.reduceLT, Int.reduceToNat, Int.reduceNeg, reduceCtorEq, Int.reduceEq, SF0, SF1, SF2, DCrd0, DCqa0, DCqa1, DCqa2, DCe0, DCe1, DCe2, DDb0, DBc0, DBc1, DLa0, DCg0, DCqk0, DCpd0, DCrk0, DAlh0]
  refine ⟨_, _, _, _, _, rfl, rfl, rfl, ?_⟩
  simp (disch := omega) only [SX0, SX1, SX2, SX3, SX4, SX5, SX6, SX7, SX8, SU0, SY0, SY1, Nat.reduceAdd, Nat.reduceMul, Nat.reduceSub, Nat.reduceLeDiff, Nat.reduceEqDiff, Nat.reduceLT, Nat.reduceBEq, ↓reduceIte, Int.reduceLE, Int.reduceLT, Int.reduceToNat, Int.reduceNeg, reduceCtorEq, Int.reduceEq, SF0, SF1, SF2, DCrd0, DCqa0, DCqa1, DCqa2, DCe0, DCe1, DCe2, DDb0, DBc0, DBc1, DLa0, DCg0, DCqk0, DCpd0, DCrk0, DAlh0, c32]
  refine kcall_one H hsp rfl rfl ?_
  simp (disch := omega) only [SX0, SX1, SX2, SX3, SX4, SX5, SX6, SX7, SX8, SU0, SY0, SY1, Nat.reduceAdd, Nat.reduceMul, Nat.reduceSub, Nat.reduceLeDiff, Nat.reduceEqDiff, Nat.reduceLT, Nat.reduceBEq, ↓reduceIte, Int.reduceLE, Int.reduceLT, Int.reduceToNat, Int.reduceNeg, reduceCtorEq, Int.reduceEq, SF0, SF1, SF2, DCrd0, DCqa0, DCqa1, DCqa2, DCe0, DCe1, DCe2, DDb0, DBc0, DBc1, DLa0, DCg0, DCqk0, DCpd0, DCrk0, DAlh0]
  refine kthen_n (awpK_of (sx_sound (bl := []) T_tt _ _ _ ?_))
  by_cases h5 : ws.length = 5
  · obtain ⟨a, b, c, d, e, rfl⟩ := rl_five h5
    have rn4 := readNumbersI_c [a, b, c, e] (by simp) (fun w hw => hmem w (by simp at hw ⊢; rcases hw with h | h | h | h <;> simp [h]))
    have sx : strs [a, b, c, d, e] = [[.val (.string (strB a))], [.val (.string (strB b))], [.val (.string (strB c))], [.val (.string (strB d))], [.val (.string (strB e))]] := rfl
    have sx4 : strs [a, b, c, e] = [[.val (.string (strB a))], [.val (.string (strB b))], [.val (.string (strB c))], [.val (.string (strB e))]] := rfl
    rw [sx4] at rn4
    have bad : ¬ ((d = wordT true ∨ d = wordT false) ∧ rnOk a ∧ rnOk b ∧ rnOk c ∧ rnOk e) → ∀ {s' : AS}, Fin [] 0 (fun r L => r = lnR (rlI [a, b, c, d, e]) ∧ L = []) s' (.tup [.agg [.val (.int .i64 0), .val (.int .i64 0), .val (.bool false), .val (.int .i64 0), .val (.int .i64 0)], .val (.bool false)]) := fun h s' => fin_free rfl ⟨by simp only [rlI, if_neg h]; rfl, rfl⟩
    have good : ((d = wordT true ∨ d = wordT false) ∧ rnOk a ∧ rnOk b ∧ rnOk c ∧ rnOk e) → lnR (rlI [a, b, c, d, e]) = .tup [.agg [.val (.int .i64 (valT b)), .val (.int .i64 (valT c)), .val (.bool (decide (d = wordT true))), .val (.int .i64 (valT e)), .val (.int .i64 (valT a))], .val (.bool true)] := fun h => by simp only [rlI, if_pos h]; rfl
    rw [sx]
    have nx : numsR (vals [a, b, c, e]) = [[.val (.int .i64 (valT a))], [.val (.int .i64 (valT b))], [.val (.int .i64 (valT c))], [.val (.int .i64 (valT e))]] := rfl
    rw [nx] at rn4
    by_cases h4 : rnOk a ∧ rnOk b ∧ rnOk c ∧ rnOk e
    · have h4' : ∀ w ∈ [a, b, c, e], rnOk w := by simp; exact h4
      rw [if_pos h4'] at rn4
      simp (disch := omega) only [SX0, SX1, SX2, SX3, SX4, SX5, SX6, SX7, SX8, SU0, SY0, SY1, Nat.reduceAdd, Nat.reduceMul, Nat.reduceSub, Nat.reduceLeDiff, Nat.reduceEqDiff, Nat.reduceLT, Nat.reduceBEq, ↓reduceIte, Int.reduceLE, Int.reduceLT, Int.reduceToNat, Int.reduceNeg, reduceCtorEq, Int.reduceEq, SF0, SF1, SF2, DCrd0, DCqa0, DCqa1, DCqa2, DCe0, DCe1, DCe2, DDb0, DBc0, DBc1, DLa0, DCg0, DCqk0, DCpd0, DCrk0, DAlh0, List.length_cons, List.length_nil, ct, cf, strB_inj, List.getElem?_cons_zero, List.getElem?_cons_succ]
      refine br_ndec (fun h => absurd rfl h) (fun _ => ?_)
      simp (disch := omega) only [SX0, SX1, SX2, SX3, SX4, SX5, SX6, SX7, SX8, SU0, SY0, SY1, Nat.reduceAdd, Nat.reduceMul, Nat.reduceSub, Nat.reduceLeDiff, Nat.reduceEqDiff, Nat.reduceLT, Nat.reduceBEq, ↓reduceIte, Int.reduceLE, Int.reduceLT, Int.reduceToNat, Int.reduceNeg, reduceCtorEq, Int.reduceEq, SF0, SF1, SF2, DCrd0, DCqa0, DCqa1, DCqa2, DCe0, DCe1, DCe2, DDb0, DBc0, DBc1, DLa0, DCg0, DCqk0, DCpd0, DCrk0, DAlh0, List.length_cons, List.length_nil, ct, cf, strB_inj, List.getElem?_cons_zero, List.getElem?_cons_succ]
      refine br_ndec (fun h1 => ?_) (fun h1 => ?_)
      · simp (disch := omega) only [SX0, SX1, SX2, SX3, SX4, SX5, SX6, SX7, SX8, SU0, SY0, SY1, Nat.reduceAdd, Nat.reduceMul, Nat.reduceSub, Nat.reduceLeDiff, Nat.reduceEqDiff, Nat.reduceLT, Nat.reduceBEq, ↓reduceIte, Int.reduceLE, Int.reduceLT, Int.reduceToNat, Int.reduceNeg, reduceCtorEq, Int.reduceEq, SF0, SF1, SF2, DCrd0, DCqa0, DCqa1, DCqa2, DCe0, DCe1, DCe2, DDb0, DBc0, DBc1, DLa0, DCg0, DCqk0, DCpd0, DCrk0, DAlh0, List.length_cons, List.length_nil, ct, cf, strB_inj, List.getElem?_cons_zero, List.getElem?_cons_succ]
        refine br_ndec (fun h2 => ?_) (fun h2 => ?_)
        · simp (disch := omega) only [SX0, SX1, SX2, SX3, SX4, SX5, SX6, SX7, SX8, SU0, SY0, SY1, Nat.reduceAdd, Nat.reduceMul, Nat.reduceSub, Nat.reduceLeDiff, Nat.reduceEqDiff, Nat.reduceLT, Nat.reduceBEq, ↓reduceIte, Int.reduceLE, Int.reduceLT, Int.reduceToNat, Int.reduceNeg, reduceCtorEq, Int.reduceEq, SF0, SF1, SF2, DCrd0, DCqa0, DCqa1, DCqa2, DCe0, DCe1, DCe2, DDb0, DBc0, DBc1, DLa0, DCg0, DCqk0, DCpd0, DCrk0, DAlh0]
          exact bad fun h => h.1.elim h1 h2
        · rw [good ⟨.inr h2, h4⟩]
          simp (disch := omega) only [SX0, SX1, SX2, SX3, SX4, SX5, SX6, SX7, SX8, SU0, SY0, SY1, Nat.reduceAdd, Nat.reduceMul, Nat.reduceSub, Nat.reduceLeDiff, Nat.reduceEqDiff, Nat.reduceLT, Nat.reduceBEq, ↓reduceIte, Int.reduceLE, Int.reduceLT, Int.reduceToNat, Int.reduceNeg, reduceCtorEq, Int.reduceEq, SF0, SF1, SF2, DCrd0, DCqa0, DCqa1, DCqa2, DCe0, DCe1, DCe2, DDb0, DBc0, DBc1, DLa0, DCg0, DCqk0, DCpd0, DCrk0, DAlh0, List.length_cons, List.length_nil, ct, cf, strB_inj, List.getElem?_cons_zero, List.getElem?_cons_succ]
          refine awp_floatG (bl := []) T_tt mixed [0] [0, 1, 2, 3, 4, 5, 6, 7, 8, 9, 10, 11, 12, 13, 14, 15, 16, 17] [0, 1, 2, 3, 4, 5, 6, 7, 8, 9, 10, 11, 12, 13, 14, 15, 16, 17] [⟨18, [0], [(0, .f 27), (1, .f 28), (2, .f 29), (3, .f 30), (4, .f 31), (5, .f 32), (6, .f 33), (7, .f 34), (8, .f 35), (9, .f 36), (10, .f 37), (11, .f 38), (12, .f 39), (13, .f 40), (14, .f 26), (15, .f 41), (16, .f 42), (17, .f 5)], [], []⟩] [] (by kernel_rfl) (by kernel_rfl) ?_
          simp (disch := omega) only [SX0, SX1, SX2, SX3, SX4, SX5, SX6, SX7, SX8, SU0, SY0, SY1, Nat.reduceAdd, Nat.reduceMul, Nat.reduceSub, Nat.reduceLeDiff, Nat.reduceEqDiff, Nat.reduceLT, Nat.reduceBEq, ↓reduceIte, Int.reduceLE, Int.reduceLT, Int.reduceToNat, Int.reduceNeg, reduceCtorEq, Int.reduceEq, SF0, SF1, SF2, DCrd0, DCqa0, DCqa1, DCqa2, DCe0, DCe1, DCe2, DDb0, DBc0, DBc1, DLa0, DCg0, DCqk0, DCpd0, DCrk0, DAlh0, SX0, List.length_cons, List.length_nil, ct, cf, strB_inj, List.getElem?_cons_zero, List.getElem?_cons_succ]
          refine qc_one rn4 rfl ?_
          simp (disch := omega) only [SX0, SX1, SX2, SX3, SX4, SX5, SX6, SX7, SX8, SU0, SY0, SY1, Nat.reduceAdd, Nat.reduceMul, Nat.reduceSub, Nat.reduceLeDiff, Nat.reduceEqDiff, Nat.reduceLT, Nat.reduceBEq, ↓reduceIte, Int.reduceLE, Int.reduceLT, Int.reduceToNat, Int.reduceNeg, reduceCtorEq, Int.reduceEq, SF0, SF1, SF2, DCrd0, DCqa0, DCqa1, DCqa2, DCe0, DCe1, DCe2, DDb0, DBc0, DBc1, DLa0, DCg0, DCqk0, DCpd0, DCrk0, DAlh0, SX0, List.length_cons, List.length_nil, ct, cf, strB_inj, List.getElem?_cons_zero, List.getElem?_cons_succ]
          refine awp_floatG (bl := []) T_tt mixed [0] [0, 1, 2, 3, 4, 5, 6, 7, 8, 9, 10, 11, 12, 13] [0, 1, 2, 3, 4, 5, 6, 7, 8, 9, 10, 11, 12, 13] [⟨15, [0], [(0, .f 46), (1, .f 47), (2, .f 48), (3, .f 49), (4, .f 50), (5, .f 51), (6, .f 52), (7, .f 53), (8, .f 54), (9, .f 55), (10, .f 56), (11, .f 57), (12, .f 58), (13, .f 59), (14, .a 7 57)], [], []⟩] [] (by kernel_rfl) (by kernel_rfl) ?_
          simp (disch := omega) only [SX0, SX1, SX2, SX3, SX4, SX5, SX6, SX7, SX8, SU0, SY0, SY1, Nat.reduceAdd, Nat.reduceMul, Nat.reduceSub, Nat.reduceLeDiff, Nat.reduceEqDiff, Nat.reduceLT, Nat.reduceBEq, ↓reduceIte, Int.reduceLE, Int.reduceLT, Int.reduceToNat, Int.reduceNeg, reduceCtorEq, Int.reduceEq, SF0, SF1, SF2, DCrd0, DCqa0, DCqa1, DCqa2, DCe0, DCe1, DCe2, DDb0, DBc0, DBc1, DLa0, DCg0, DCqk0, DCpd0, DCrk0, DAlh0, SX0, List.length_cons, List.length_nil, ct, cf, strB_inj, List.getElem?_cons_zero, List.getElem?_cons_succ]
          refine awp_draw (bl := []) T_tt mixed 5 (by decide) (by kernel_rfl) (.inr ⟨by kernel_rfl, by kernel_rfl⟩) (by kernel_rfl) ?_
          simp (disch := omega) only [SX0, SX1, SX2, SX3, SX4, SX5, SX6, SX7, SX8, SU0, SY0, SY1, Nat.reduceAdd, Nat.reduceMul, Nat.reduceSub, Nat.reduceLeDiff, Nat.reduceEqDiff, Nat.reduceLT, Nat.reduceBEq, ↓reduceIte, Int.reduceLE, Int.reduceLT, Int.reduceToNat, Int.reduceNeg, reduceCtorEq, Int.reduceEq, SF0, SF1, SF2, DCrd0, DCqa0, DCqa1, DCqa2, DCe0, DCe1, DCe2, DDb0, DBc0, DBc1, DLa0, DCg0, DCqk0, DCpd0, DCrk0, DAlh0, SX0, List.length_cons, List.length_nil, ct, cf, strB_inj, List.getElem?_cons_zero, List.getElem?_cons_succ]
          exact fin_free rfl ⟨rfl, rfl⟩
      · rw [good ⟨.inl h1, h4⟩]
        simp (disch := omega) only [SX0, SX1, SX2, SX3, SX4, SX5, SX6, SX7, SX8, SU0, SY0, SY1, Nat.reduceAdd, Nat.reduceMul, Nat.reduceSub, Nat.reduceLeDiff, Nat.reduceEqDiff, Nat.reduceLT, Nat.reduceBEq, ↓reduceIte, Int.reduceLE, Int.reduceLT, Int.reduceToNat, Int.reduceNeg, reduceCtorEq, Int.reduceEq, SF0, SF1, SF2, DCrd0, DCqa0, DCqa1, DCqa2, DCe0, DCe1, DCe2, DDb0, DBc0, DBc1, DLa0, DCg0, DCqk0, DCpd0, DCrk0, DAlh0, List.length_cons, List.length_nil, ct, cf, strB_inj, List.getElem?_cons_zero, List.getElem?_cons_succ]
        refine awp_floatG (bl := []) T_tt mixed [0] [0, 1, 2, 3, 4, 5, 6, 7, 8, 9, 10, 11, 12, 13, 14, 15, 16, 17] [0, 1, 2, 3, 4, 5, 6, 7, 8, 9, 10, 11, 12, 13, 14, 15, 16, 17] [⟨18, [0], [(0, .f 27), (1, .f 28), (2, .f 29), (3, .f 30), (4, .f 31), (5, .f 32), (6, .f 33), (7, .f 34), (8, .f 35), (9, .f 36), (10, .f 37), (11, .f 38), (12, .f 39), (13, .f 40), (14, .f 26), (15, .f 41), (16, .f 42), (17, .f 5)], [], []⟩] [] (by kernel_rfl) (by kernel_rfl) ?_
        simp (disch := omega) only [SX0, SX1, SX2, SX3, SX4, SX5, SX6, SX7, SX8, SU0, SY0, SY1, Nat.reduceAdd, Nat.reduceMul, Nat.reduceSub, Nat.reduceLeDiff, Nat.reduceEqDiff, Nat.reduceLT, Nat.reduceBEq, ↓reduceIte, Int.reduceLE, Int.reduceLT, Int.reduceToNat, Int.reduceNeg, reduceCtorEq, Int.reduceEq, SF0, SF1, SF2, DCrd0, DCqa0, DCqa1, DCqa2, DCe0, DCe1, DCe2, DDb0, DBc0, DBc1, DLa0, DCg0, DCqk0, DCpd0, DCrk0, DAlh0, SX0, List.length_cons, List.length_nil, ct, cf, strB_inj, List.getElem?_cons_zero, List.getElem?_cons_succ]
        refine qc_one rn4 rfl ?_
        simp (disch := omega) only [SX0, SX1, SX2, SX3, SX4, SX5, SX6, SX7, SX8, SU0, SY0, SY1, Nat.reduceAdd, Nat.reduceMul, Nat.reduceSub, Nat.reduceLeDiff, Nat.reduceEqDiff, Nat.reduceLT, Nat.reduceBEq, ↓reduceIte, Int.reduceLE, Int.reduceLT, Int.reduceToNat, Int.reduceNeg, reduceCtorEq, Int.reduceEq, SF0, SF1, SF2, DCrd0, DCqa0, DCqa1, DCqa2, DCe0, DCe1, DCe2, DDb0, DBc0, DBc1, DLa0, DCg0, DCqk0, DCpd0, DCrk0, DAlh0, SX0, List.length_cons, List.length_nil, ct, cf, strB_inj, List.getElem?_cons_zero, List.getElem?_cons_succ]
        refine awp_floatG (bl := []) T_tt mixed [0] [0, 1, 2, 3, 4, 5, 6, 7, 8, 9, 10, 11, 12, 13] [0, 1, 2, 3, 4, 5, 6, 7, 8, 9, 10, 11, 12, 13] [⟨15, [0], [(0, .f 46), (1, .f 47), (2, .f 48), (3, .f 49), (4, .f 50), (5, .f 51), (6, .f 52), (7, .f 53), (8, .f 54), (9, .f 55), (10, .f 56), (11, .f 57), (12, .f 58), (13, .f 59), (14, .a 7 57)], [], []⟩] [] (by kernel_rfl) (by kernel_rfl) ?_
        simp (disch := omega) only [SX0, SX1, SX2, SX3, SX4, SX5, SX6, SX7, SX8, SU0, SY0, SY1, Nat.reduceAdd, Nat.reduceMul, Nat.reduceSub, Nat.reduceLeDiff, Nat.reduceEqDiff, Nat.reduceLT, Nat.reduceBEq, ↓reduceIte, Int.reduceLE, Int.reduceLT, Int.reduceToNat, Int.reduceNeg, reduceCtorEq, Int.reduceEq, SF0, SF1, SF2, DCrd0, DCqa0, DCqa1, DCqa2, DCe0, DCe1, DCe2, DDb0, DBc0, DBc1, DLa0, DCg0, DCqk0, DCpd0, DCrk0, DAlh0, SX0, List.length_cons, List.length_nil, ct, cf, strB_inj, List.getElem?_cons_zero, List.getElem?_cons_succ]
        refine awp_draw (bl := []) T_tt mixed 5 (by decide) (by kernel_rfl) (.inr ⟨by kernel_rfl, by kernel_rfl⟩) (by kernel_rfl) ?_
        simp (disch := omega) only [SX0, SX1, SX2, SX3, SX4, SX5, SX6, SX7, SX8, SU0, SY0, SY1, Nat.reduceAdd, Nat.reduceMul, Nat.reduceSub, Nat.reduceLeDiff, Nat.reduceEqDiff, Nat.reduceLT, Nat.reduceBEq, ↓reduceIte, Int.reduceLE, Int.reduceLT, Int.reduceToNat, Int.reduceNeg, reduceCtorEq, Int.reduceEq, SF0, SF1, SF2, DCrd0, DCqa0, DCqa1, DCqa2, DCe0, DCe1, DCe2, DDb0, DBc0, DBc1, DLa0, DCg0, DCqk0, DCpd0, DCrk0, DAlh0, SX0, List.length_cons, List.length_nil, ct, cf, strB_inj, List.getElem?_cons_zero, List.getElem?_cons_succ]
        exact fin_free rfl ⟨rfl, rfl⟩
    · have h4' : ¬ ∀ w ∈ [a, b, c, e], rnOk w := fun h => h4 ⟨h a (by simp), h b (by simp), h c (by simp), h e (by simp)⟩
      rw [if_neg h4'] at rn4
      simp (disch := omega) only [SX0, SX1, SX2, SX3, SX4, SX5, SX6, SX7, SX8, SU0, SY0, SY1, Nat.reduceAdd, Nat.reduceMul, Nat.reduceSub, Nat.reduceLeDiff, Nat.reduceEqDiff, Nat.reduceLT, Nat.reduceBEq, ↓reduceIte, Int.reduceLE, Int.reduceLT, Int.reduceToNat, Int.reduceNeg, reduceCtorEq, Int.reduceEq, SF0, SF1, SF2, DCrd0, DCqa0, DCqa1, DCqa2, DCe0, DCe1, DCe2, DDb0, DBc0, DBc1, DLa0, DCg0, DCqk0, DCpd0, DCrk0, DAlh0, List.length_cons, List.length_nil, ct, cf, strB_inj, List.getElem?_cons_zero, List.getElem?_cons_succ]
      refine br_ndec (fun h => absurd rfl h) (fun _ => ?_)
      simp (disch := omega) only [SX0, SX1, SX2, SX3, SX4, SX5, SX6, SX7, SX8, SU0, SY0, SY1, Nat.reduceAdd, Nat.reduceMul, Nat.reduceSub, Nat.reduceLeDiff, Nat.reduceEqDiff, Nat.reduceLT, Nat.reduceBEq, ↓reduceIte, Int.reduceLE, Int.reduceLT, Int.reduceToNat, Int.reduceNeg, reduceCtorEq, Int.reduceEq, SF0, SF1, SF2, DCrd0, DCqa0, DCqa1, DCqa2, DCe0, DCe1, DCe2, DDb0, DBc0, DBc1, DLa0, DCg0, DCqk0, DCpd0, DCrk0, DAlh0, List.length_cons, List.length_nil, ct, cf, strB_inj, List.getElem?_cons_zero, List.getElem?_cons_succ]
      refine br_ndec (fun h1 => ?_) (fun h1 => ?_)
      · simp (disch := omega) only [SX0, SX1, SX2, SX3, SX4, SX5, SX6, SX7, SX8, SU0, SY0, SY1, Nat.reduceAdd, Nat.reduceMul, Nat.reduceSub, Nat.reduceLeDiff, Nat.reduceEqDiff, Nat.reduceLT, Nat.reduceBEq, ↓reduceIte, Int.reduceLE, Int.reduceLT, Int.reduceToNat, Int.reduceNeg, reduceCtorEq, Int.reduceEq, SF0, SF1, SF2, DCrd0, DCqa0, DCqa1, DCqa2, DCe0, DCe1, DCe2, DDb0, DBc0, DBc1, DLa0, DCg0, DCqk0, DCpd0, DCrk0, DAlh0, List.length_cons, List.length_nil, ct, cf, strB_inj, List.getElem?_cons_zero, List.getElem?_cons_succ]
        refine br_ndec (fun h2 => ?_) (fun h2 => ?_)
        · simp (disch := omega) only [SX0, SX1, SX2, SX3, SX4, SX5, SX6, SX7, SX8, SU0, SY0, SY1, Nat.reduceAdd, Nat.reduceMul, Nat.reduceSub, Nat.reduceLeDiff, Nat.reduceEqDiff, Nat.reduceLT, Nat.reduceBEq, ↓reduceIte, Int.reduceLE, Int.reduceLT, Int.reduceToNat, Int.reduceNeg, reduceCtorEq, Int.reduceEq, SF0, SF1, SF2, DCrd0, DCqa0, DCqa1, DCqa2, DCe0, DCe1, DCe2, DDb0, DBc0, DBc1, DLa0, DCg0, DCqk0, DCpd0, DCrk0, DAlh0]
          exact bad fun h => h.1.elim h1 h2
        · simp (disch := omega) only [SX0, SX1, SX2, SX3, SX4, SX5, SX6, SX7, SX8, SU0, SY0, SY1, Nat.reduceAdd, Nat.reduceMul, Nat.reduceSub, Nat.reduceLeDiff, Nat.reduceEqDiff, Nat.reduceLT, Nat.reduceBEq, ↓reduceIte, Int.reduceLE, Int.reduceLT, Int.reduceToNat, Int.reduceNeg, reduceCtorEq, Int.reduceEq, SF0, SF1, SF2, DCrd0, DCqa0, DCqa1, DCqa2, DCe0, DCe1, DCe2, DDb0, DBc0, DBc1, DLa0, DCg0, DCqk0, DCpd0, DCrk0, DAlh0, List.length_cons, List.length_nil, ct, cf, strB_inj, List.getElem?_cons_zero, List.getElem?_cons_succ]
          refine awp_floatG (bl := []) T_tt mixed [0] [0, 1, 2, 3, 4, 5, 6, 7, 8, 9, 10, 11, 12, 13, 14, 15, 16, 17] [0, 1, 2, 3, 4, 5, 6, 7, 8, 9, 10, 11, 12, 13, 14, 15, 16, 17] [⟨18, [0], [(0, .f 27), (1, .f 28), (2, .f 29), (3, .f 30), (4, .f 31), (5, .f 32), (6, .f 33), (7, .f 34), (8, .f 35), (9, .f 36), (10, .f 37), (11, .f 38), (12, .f 39), (13, .f 40), (14, .f 26), (15, .f 41), (16, .f 42), (17, .f 5)], [], []⟩] [] (by kernel_rfl) (by kernel_rfl) ?_
          simp (disch := omega) only [SX0, SX1, SX2, SX3, SX4, SX5, SX6, SX7, SX8, SU0, SY0, SY1, Nat.reduceAdd, Nat.reduceMul, Nat.reduceSub, Nat.reduceLeDiff, Nat.reduceEqDiff, Nat.reduceLT, Nat.reduceBEq, ↓reduceIte, Int.reduceLE, Int.reduceLT, Int.reduceToNat, Int.reduceNeg, reduceCtorEq, Int.reduceEq, SF0, SF1, SF2, DCrd0, DCqa0, DCqa1, DCqa2, DCe0, DCe1, DCe2, DDb0, DBc0, DBc1, DLa0, DCg0, DCqk0, DCpd0, DCrk0, DAlh0, SX0, List.length_cons, List.length_nil, ct, cf, strB_inj, List.getElem?_cons_zero, List.getElem?_cons_succ]
          refine qc_one rn4 rfl ?_
          simp (disch := omega) only [SX0, SX1, SX2, SX3, SX4, SX5, SX6, SX7, SX8, SU0, SY0, SY1, Nat.reduceAdd, Nat.reduceMul, Nat.reduceSub, Nat.reduceLeDiff, Nat.reduceEqDiff, Nat.reduceLT, Nat.reduceBEq, ↓reduceIte, Int.reduceLE, Int.reduceLT, Int.reduceToNat, Int.reduceNeg, reduceCtorEq, Int.reduceEq, SF0, SF1, SF2, DCrd0, DCqa0, DCqa1, DCqa2, DCe0, DCe1, DCe2, DDb0, DBc0, DBc1, DLa0, DCg0, DCqk0, DCpd0, DCrk0, DAlh0, SX0, List.length_cons, List.length_nil, ct, cf, strB_inj, List.getElem?_cons_zero, List.getElem?_cons_succ]
          exact bad fun h => h4 h.2
      · simp (disch := omega) only [SX0, SX1, SX2, SX3, SX4, SX5, SX6, SX7, SX8, SU0, SY0, SY1, Nat.reduceAdd, Nat.reduceMul, Nat.reduceSub, Nat.reduceLeDiff, Nat.reduceEqDiff, Nat.reduceLT, Nat.reduceBEq, ↓reduceIte, Int.reduceLE, Int.reduceLT, Int.reduceToNat, Int.reduceNeg, reduceCtorEq, Int.reduceEq, SF0, SF1, SF2, DCrd0, DCqa0, DCqa1, DCqa2, DCe0, DCe1, DCe2, DDb0, DBc0, DBc1, DLa0, DCg0, DCqk0, DCpd0, DCrk0, DAlh0, List.length_cons, List.length_nil, ct, cf, strB_inj, List.getElem?_cons_zero, List.getElem?_cons_succ]
        refine awp_floatG (bl := []) T_tt mixed [0] [0, 1, 2, 3, 4, 5, 6, 7, 8, 9, 10, 11, 12, 13, 14, 15, 16, 17] [0, 1, 2, 3, 4, 5, 6, 7, 8, 9, 10, 11, 12, 13, 14, 15, 16, 17] [⟨18, [0], [(0, .f 27), (1, .f 28), (2, .f 29), (3, .f 30), (4, .f 31), (5, .f 32), (6, .f 33), (7, .f 34), (8, .f 35), (9, .f 36), (10, .f 37), (11, .f 38), (12, .f 39), (13, .f 40), (14, .f 26), (15, .f 41), (16, .f 42), (17, .f 5)], [], []⟩] [] (by kernel_rfl) (by kernel_rfl) ?_
        simp (disch := omega) only [SX0, SX1, SX2, SX3, SX4, SX5, SX6, SX7, SX8, SU0, SY0, SY1, Nat.reduceAdd, Nat.reduceMul, Nat.reduceSub, Nat.reduceLeDiff, Nat.reduceEqDiff, Nat.reduceLT, Nat.reduceBEq, ↓reduceIte, Int.reduceLE, Int.reduceLT, Int.reduceToNat, Int.reduceNeg, reduceCtorEq, Int.reduceEq, SF0, SF1, SF2, DCrd0, DCqa0, DCqa1, DCqa2, DCe0, DCe1, DCe2, DDb0, DBc0, DBc1, DLa0, DCg0, DCqk0, DCpd0, DCrk0, DAlh0, SX0, List.length_cons, List.length_nil, ct, cf, strB_inj, List.getElem?_cons_zero, List.getElem?_cons_succ]
        refine qc_one rn4 rfl ?_
        simp (disch := omega) only [SX0, SX1, SX2, SX3, SX4, SX5, SX6, SX7, SX8, SU0, SY0, SY1, Nat.reduceAdd, Nat.reduceMul, Nat.reduceSub, Nat.reduceLeDiff, Nat.reduceEqDiff, Nat.reduceLT, Nat.reduceBEq, ↓reduceIte, Int.reduceLE, Int.reduceLT, Int.reduceToNat, Int.reduceNeg, reduceCtorEq, Int.reduceEq, SF0, SF1, SF2, DCrd0, DCqa0, DCqa1, DCqa2, DCe0, DCe1, DCe2, DDb0, DBc0, DBc1, DLa0, DCg0, DCqk0, DCpd0, DCrk0, DAlh0, SX0, List.length_cons, List.length_nil, ct, cf, strB_inj, List.getElem?_cons_zero, List.getElem?_cons_succ]
        exact bad fun h => h4 h.2
  · rw [rlI_len h5, lnR_none]
    simp (disch := omega) only [SX0, SX1, SX2, SX3, SX4, SX5, SX6, SX7, SX8, SU0, SY0, SY1, Nat.reduceAdd, Nat.reduceMul, Nat.reduceSub, Nat.reduceLeDiff, Nat.reduceEqDiff, Nat.reduceLT, Nat.reduceBEq, ↓reduceIte, Int.reduceLE, Int.reduceLT, Int.reduceToNat, Int.reduceNeg, reduceCtorEq, Int.reduceEq, SF0, SF1, SF2, DCrd0, DCqa0, DCqa1, DCqa2, DCe0, DCe1, DCe2, DDb0, DBc0, DBc1, DLa0, DCg0, DCqk0, DCpd0, DCrk0, DAlh0, sl]
    refine br_ndec (fun _ => ?_) (fun h => by omega)
    simp (disch := omega) only [SX0, SX1, SX2, SX3, SX4, SX5, SX6, SX7, SX8, SU0, SY0, SY1, Nat.reduceAdd, Nat.reduceMul, Nat.reduceSub, Nat.reduceLeDiff, Nat.reduceEqDiff, Nat.reduceLT, Nat.reduceBEq, ↓reduceIte, Int.reduceLE, Int.reduceLT, Int.reduceToNat, Int.reduceNeg, reduceCtorEq, Int.reduceEq, SF0, SF1, SF2, DCrd0, DCqa0, DCqa1, DCqa2, DCe0, DCe1, DCe2, DDb0, DBc0, DBc1, DLa0, DCg0, DCqk0, DCpd0, DCrk0, DAlh0]
    exact fin_free rfl ⟨rfl, rfl⟩
/-! ### Orders -/

theorem readAll_mem {l : List (List UInt8)} {t : List UInt8} (h : t ∈ l) : ∀ {ls : List Ln}, readAll l = some ls → ∃ x ∈ ls, rlS (sp 32 t) = some x := by
  induction l with
  | nil => cases h
  | cons u l ih =>
    intro ls hl
    simp only [readAll] at hl
    cases h1 : rlS (sp 32 u) with
    | none => simp [h1] at hl
    | some x =>
      cases h2 : readAll l with
      | none => simp [h1, h2] at hl
      | some m =>
        simp [h1, h2] at hl
        rw [← hl]
        rcases List.mem_cons.1 h with rfl | h
        · exact ⟨x, by simp, h1⟩
        · obtain ⟨y, hy, e⟩ := ih h h2
          exact ⟨y, by simp [hy], e⟩
theorem ord_end {s : List UInt8} {ts : List (List UInt8)} {ls : List Ln} (h : sp 10 s = ts ++ sp 10 []) (hr : readAll ts = some ls) : ordOf s = if ordOk ls then some ls else none := by
  have e : sp 10 s = ts ++ [[]] := h
  have hd : readAll (sp 10 s).dropLast = some ls := by rw [e, List.dropLast_concat]; exact hr
  split
  · rename_i hok
    exact ordOf_some hd ⟨by rw [e]; simp, hok⟩
  · rename_i hok
    exact ordOf_no hd fun hh => hok hh.2
theorem ord_open {s : List UInt8} {ts : List (List UInt8)} {rest : List UInt8} (h : sp 10 s = ts ++ sp 10 rest) (hne : rest ≠ []) (hno : (10 : UInt8) ∉ rest) : ordOf s = none := by
  rw [sp_none hno] at h
  cases hd : readAll (sp 10 s).dropLast with
  | none => exact ordOf_none hd
  | some ls =>
    refine ordOf_no hd fun hh => hne ?_
    have := hh.1
    rw [h] at this
    simpa using this
theorem ord_drop {s : List UInt8} {ts : List (List UInt8)} {p r : List UInt8} (h : sp 10 s = ts ++ sp 10 (p ++ 10 :: r)) (hp : (10 : UInt8) ∉ p) : sp 10 s = (ts ++ [p]) ++ sp 10 r ∧ (sp 10 s).dropLast = ts ++ p :: (sp 10 r).dropLast := by
  rw [sp_part r hp] at h
  refine ⟨by rw [h]; simp, ?_⟩
  rw [h, List.dropLast_append_of_ne_nil (by simp)]
  congr 1
  exact List.dropLast_cons_of_ne_nil (sp_ne 10 r)
theorem ord_many {s : List UInt8} {ts : List (List UInt8)} {p r : List UInt8} (h : sp 10 s = ts ++ sp 10 (p ++ 10 :: r)) (hp : (10 : UInt8) ∉ p) (h8 : ts.length = 8) : ordOf s = none := by
  obtain ⟨_, h2⟩ := ord_drop h hp
  cases hd : readAll (sp 10 s).dropLast with
  | none => exact ordOf_none hd
  | some ls =>
    refine ordOf_no hd fun hh => ?_
    have h1 := readAll_len hd
    rw [h2] at h1
    have := hh.2.2.2.1
    simp at h1
    omega
theorem ord_bad {s : List UInt8} {ts : List (List UInt8)} {p r : List UInt8} (h : sp 10 s = ts ++ sp 10 (p ++ 10 :: r)) (hp : (10 : UInt8) ∉ p) (hb : rlI (sp 32 p) = none) : ordOf s = none := by
  obtain ⟨_, h2⟩ := ord_drop h hp
  cases hd : readAll (sp 10 s).dropLast with
  | none => exact ordOf_none hd
  | some ls =>
    refine ordOf_no hd fun hh => ?_
    obtain ⟨x, hx, e⟩ := readAll_mem (t := p) (by rw [h2]; simp) hd
    have := hh.2.1 x hx
    exact rl_none hb e this
theorem rlI_rng {ws : List (List UInt8)} {x : Ln} (h : rlI ws = some x) : -9223372036854775808 ≤ x.N ∧ x.N ≤ 9223372036854775807 := by
  unfold rlI at h
  split at h
  · split at h
    · rename_i hc
      cases h
      have := rn_lt hc.2.1
      simp only
      omega
    · cases h
  · cases h

/-- What the program makes of a text: an order in a row of its own, or nothing. -/
def parseR (o : Option (List Ln)) (r : AV) (L : List OB) : Prop := match o with
  | some ls => r = .tup [.os 0 5 0 ls.length, .val (.bool true)] ∧ L = [.vec 5 (ls.map Ln.cs)]
  | none => r = .tup [.val (.slice none 0 0), .val (.bool false)] ∧ L = []

theorem e_parseOrderI : Enters Tryd.prog 17 := enters_of Tryd.func17 (by kernel_rfl) (by kernel_rfl)
set_option maxRecDepth 8000 in
set_option maxHeartbeats 4000000 in
theorem parseOrder_k (s : List UInt8) (hs : s.length ≤ 1048576) : ACallsK Tryd.prog KShp 17 [.val (.string (strB s))] [] [] (parseR (ordOf s)) := by
  have S := KShp.stays
  have H := KShp.shrinks
  have c0 : (⟨#[]⟩ : ByteArray) = strB [] := rfl
  have c10 : (⟨#[10]⟩ : ByteArray) = strB [10] := rfl
  have bad : ordOf s = none → ∀ {s' : AS}, Fin [] 0 (parseR (ordOf s)) s' (.tup [.val (.slice none 0 0), .val (.bool false)]) := fun h s' => fin_free rfl (by rw [h]; exact ⟨rfl, rfl⟩)
  refine ⟨e_parseOrderI, ?_⟩
  refine callsK_intro (args := [.val (.string (strB s))]) (L0 := []) (R := parseR (ordOf s)) T_tt Tryd.func17 rfl 40 rfl (rv := [.tmp 2, .tmp 3]) rfl (W8 _ .any .any .any .any .any .any .any (W8 .any .any .any .any .any .any .any .any (W8 .any .any .any .any .any .any .any .any (W8 .any .any .any .any .any .any .any .any (W8 .any .any .any .any .any .any .any .any [.any]))))) rfl ?_
  refine awpK_seq S (sx_sound (bl := []) T_tt _ _ _ ?_)
  simp (disch := omega) only [SX0, SX1, SX2, SX3, SX4, SX5, SX6, SX7, SX8, SU0, SY0, SY1, Nat.reduceAdd, Nat.reduceMul, Nat.reduceSub, Nat.reduceLeDiff, Nat.reduceEqDiff, Nat.reduceLT, Nat.reduceBEq, ↓reduceIte, Int.reduceLE, Int.reduceLT, Int.reduceToNat, Int.reduceNeg, reduceCtorEq, Int.reduceEq, SF0, SF1, SF2, DCrd0, DCqa0, DCqa1, DCqa2, DCe0, DCe1, DCe2, DDb0, DBc0, DBc1, DLa0, DCg0, DCqk0, DCpd0, DCrk0, DAlh0]
  refine kthen_n (awpK_seq S (sx_sound (bl := []) T_tt _ _ _ ?_))
  simp (disch := omega) only [SX0, SX1, SX2, SX3, SX4, SX5, SX6, SX7, SX8, SU0, SY0, SY1, Nat.reduceAdd, Nat.reduceMul, Nat.reduceSub, Nat.reduceLeDiff, Nat.reduceEqDiff, Nat.reduceLT, Nat.reduceBEq, ↓reduceIte, Int.reduceLE, Int.reduceLT, Int.reduceToNat, Int.reduceNeg, reduceCtorEq, Int.reduceEq, SF0, SF1, SF2, DCrd0, DCqa0, DCqa1, DCqa2, DCe0, DCe1, DCe2, DDb0, DBc0, DBc1, DLa0, DCg0, DCqk0, DCpd0, DCrk0, DAlh0]
  refine kthen_n (awpK_wk S (wk_nil 4 5 (by decide) rfl) ?_)
  refine awpK_seqK S (awpK_block ?_)
  with_reducible refine awpK_loop_h (G := List UInt8 × List (List UInt8) × List Ln) S 0 41 (fun g => [(0, .val (.string (strB g.1))), (4, .os 0 5 0 g.2.2.length)]) (fun g => [.vec 5 (g.2.2.map Ln.cs)]) (fun g => sp 10 s = g.2.1 ++ sp 10 g.1 ∧ readAll g.2.1 = some g.2.2 ∧ g.2.1.length ≤ 8 ∧ g.1.length ≤ 1048576 ∧ ∀ x ∈ g.2.2, -9223372036854775808 ≤ x.N ∧ x.N ≤ 9223372036854775807) (fun g => g.1.length) (s, [], []) ⟨rfl, rfl, by simp, hs, by simp⟩ ?_ (fun g hg => ?_)
  · simp (disch := omega) only [SX0, SX1, SX2, SX3, SX4, SX5, SX6, SX7, SX8, SU0, SY0, SY1, Nat.reduceAdd, Nat.reduceMul, Nat.reduceSub, Nat.reduceLeDiff, Nat.reduceEqDiff, Nat.reduceLT, Nat.reduceBEq, ↓reduceIte, Int.reduceLE, Int.reduceLT, Int.reduceToNat, Int.reduceNeg, reduceCtorEq, Int.reduceEq, SF0, SF1, SF2, DCrd0, DCqa0, DCqa1, DCqa2, DCe0, DCe1, DCe2, DDb0, DBc0, DBc1, DLa0, DCg0, DCqk0, DCpd0, DCrk0, DAlh0]
    (refine wk_le ?_ ?_ ?_; (focus (simp [W8, leTm, leAV, AV.under, underL]; done)); (focus (simp [leL, OB.under, underL, AV.under]; done)); (focus (simp; done)))
  obtain ⟨rest, ts, ls⟩ := g
  obtain ⟨h1, h2, h3, h4, h5⟩ := hg
  simp only at h1 h2 h3 h4 h5
  refine awpK_seq S (sx_sound (bl := []) T_tt _ _ _ ?_)
  simp (disch := omega) only [SX0, SX1, SX2, SX3, SX4, SX5, SX6, SX7, SX8, SU0, SY0, SY1, Nat.reduceAdd, Nat.reduceMul, Nat.reduceSub, Nat.reduceLeDiff, Nat.reduceEqDiff, Nat.reduceLT, Nat.reduceBEq, ↓reduceIte, Int.reduceLE, Int.reduceLT, Int.reduceToNat, Int.reduceNeg, reduceCtorEq, Int.reduceEq, SF0, SF1, SF2, DCrd0, DCqa0, DCqa1, DCqa2, DCe0, DCe1, DCe2, DDb0, DBc0, DBc1, DLa0, DCg0, DCqk0, DCpd0, DCrk0, DAlh0, c0, strB_inj]
  have hll := readAll_len h2
  refine br_ndec (fun h6 => ?_) (fun h6 => ?_)
  · have ck := cut_k rest 10 h4
    rcases cut_one 10 rest with ⟨hno, e⟩ | ⟨p, r, rfl, hno, e⟩
    · rw [e] at ck
      simp (disch := omega) only [SX0, SX1, SX2, SX3, SX4, SX5, SX6, SX7, SX8, SU0, SY0, SY1, Nat.reduceAdd, Nat.reduceMul, Nat.reduceSub, Nat.reduceLeDiff, Nat.reduceEqDiff, Nat.reduceLT, Nat.reduceBEq, ↓reduceIte, Int.reduceLE, Int.reduceLT, Int.reduceToNat, Int.reduceNeg, reduceCtorEq, Int.reduceEq, SF0, SF1, SF2, DCrd0, DCqa0, DCqa1, DCqa2, DCe0, DCe1, DCe2, DDb0, DBc0, DBc1, DLa0, DCg0, DCqk0, DCpd0, DCrk0, DAlh0]
      refine kthen_n (awpK_block (awpK_seqK S (awpK_region (bl := []) S T_tt 1 ?_)))
      simp (disch := omega) only [SX0, SX1, SX2, SX3, SX4, SX5, SX6, SX7, SX8, SU0, SY0, SY1, Nat.reduceAdd, Nat.reduceMul, Nat.reduceSub, Nat.reduceLeDiff, Nat.reduceEqDiff, Nat.reduceLT, Nat.reduceBEq, ↓reduceIte, Int.reduceLE, Int.reduceLT, Int.reduceToNat, Int.reduceNeg, reduceCtorEq, Int.reduceEq, SF0, SF1, SF2, DCrd0, DCqa0, DCqa1, DCqa2, DCe0, DCe1, DCe2, DDb0, DBc0, DBc1, DLa0, DCg0, DCqk0, DCpd0, DCrk0, DAlh0]
      refine ⟨_, _, _, _, _, rfl, rfl, rfl, ?_⟩
      simp (disch := omega) only [SX0, SX1, SX2, SX3, SX4, SX5, SX6, SX7, SX8, SU0, SY0, SY1, Nat.reduceAdd, Nat.reduceMul, Nat.reduceSub, Nat.reduceLeDiff, Nat.reduceEqDiff, Nat.reduceLT, Nat.reduceBEq, ↓reduceIte, Int.reduceLE, Int.reduceLT, Int.reduceToNat, Int.reduceNeg, reduceCtorEq, Int.reduceEq, SF0, SF1, SF2, DCrd0, DCqa0, DCqa1, DCqa2, DCe0, DCe1, DCe2, DDb0, DBc0, DBc1, DLa0, DCg0, DCqk0, DCpd0, DCrk0, DAlh0, c10]
      refine kcall_one H ck rfl rfl ?_
      simp (disch := omega) only [SX0, SX1, SX2, SX3, SX4, SX5, SX6, SX7, SX8, SU0, SY0, SY1, Nat.reduceAdd, Nat.reduceMul, Nat.reduceSub, Nat.reduceLeDiff, Nat.reduceEqDiff, Nat.reduceLT, Nat.reduceBEq, ↓reduceIte, Int.reduceLE, Int.reduceLT, Int.reduceToNat, Int.reduceNeg, reduceCtorEq, Int.reduceEq, SF0, SF1, SF2, DCrd0, DCqa0, DCqa1, DCqa2, DCe0, DCe1, DCe2, DDb0, DBc0, DBc1, DLa0, DCg0, DCqk0, DCpd0, DCrk0, DAlh0]
      refine kthen_n (awpK_seq S (sx_sound (bl := []) T_tt _ _ _ ?_))
      simp (disch := omega) only [SX0, SX1, SX2, SX3, SX4, SX5, SX6, SX7, SX8, SU0, SY0, SY1, Nat.reduceAdd, Nat.reduceMul, Nat.reduceSub, Nat.reduceLeDiff, Nat.reduceEqDiff, Nat.reduceLT, Nat.reduceBEq, ↓reduceIte, Int.reduceLE, Int.reduceLT, Int.reduceToNat, Int.reduceNeg, reduceCtorEq, Int.reduceEq, SF0, SF1, SF2, DCrd0, DCqa0, DCqa1, DCqa2, DCe0, DCe1, DCe2, DDb0, DBc0, DBc1, DLa0, DCg0, DCqk0, DCpd0, DCrk0, DAlh0]
      exact bad (ord_open h1 h6 hno)
    · rw [e] at ck
      have hpl : p.length ≤ 1048576 := by simp at h4; omega
      simp (disch := omega) only [SX0, SX1, SX2, SX3, SX4, SX5, SX6, SX7, SX8, SU0, SY0, SY1, Nat.reduceAdd, Nat.reduceMul, Nat.reduceSub, Nat.reduceLeDiff, Nat.reduceEqDiff, Nat.reduceLT, Nat.reduceBEq, ↓reduceIte, Int.reduceLE, Int.reduceLT, Int.reduceToNat, Int.reduceNeg, reduceCtorEq, Int.reduceEq, SF0, SF1, SF2, DCrd0, DCqa0, DCqa1, DCqa2, DCe0, DCe1, DCe2, DDb0, DBc0, DBc1, DLa0, DCg0, DCqk0, DCpd0, DCrk0, DAlh0]
      refine kthen_n (awpK_block (awpK_seqK S (awpK_region (bl := []) S T_tt 1 ?_)))
      simp (disch := omega) only [SX0, SX1, SX2, SX3, SX4, SX5, SX6, SX7, SX8, SU0, SY0, SY1, Nat.reduceAdd, Nat.reduceMul, Nat.reduceSub, Nat.reduceLeDiff, Nat.reduceEqDiff, Nat.reduceLT, Nat.reduceBEq, ↓reduceIte, Int.reduceLE, Int.reduceLT, Int.reduceToNat, Int.reduceNeg, reduceCtorEq, Int.reduceEq, SF0, SF1, SF2, DCrd0, DCqa0, DCqa1, DCqa2, DCe0, DCe1, DCe2, DDb0, DBc0, DBc1, DLa0, DCg0, DCqk0, DCpd0, DCrk0, DAlh0]
      refine ⟨_, _, _, _, _, rfl, rfl, rfl, ?_⟩
      simp (disch := omega) only [SX0, SX1, SX2, SX3, SX4, SX5, SX6, SX7, SX8, SU0, SY0, SY1, Nat.reduceAdd, Nat.reduceMul, Nat.reduceSub, Nat.reduceLeDiff, Nat.reduceEqDiff, Nat.reduceLT, Nat.reduceBEq, ↓reduceIte, Int.reduceLE, Int.reduceLT, Int.reduceToNat, Int.reduceNeg, reduceCtorEq, Int.reduceEq, SF0, SF1, SF2, DCrd0, DCqa0, DCqa1, DCqa2, DCe0, DCe1, DCe2, DDb0, DBc0, DBc1, DLa0, DCg0, DCqk0, DCpd0, DCrk0, DAlh0, c10]
      refine kcall_one H ck rfl rfl ?_
      simp (disch := omega) only [SX0, SX1, SX2, SX3, SX4, SX5, SX6, SX7, SX8, SU0, SY0, SY1, Nat.reduceAdd, Nat.reduceMul, Nat.reduceSub, Nat.reduceLeDiff, Nat.reduceEqDiff, Nat.reduceLT, Nat.reduceBEq, ↓reduceIte, Int.reduceLE, Int.reduceLT, Int.reduceToNat, Int.reduceNeg, reduceCtorEq, Int.reduceEq, SF0, SF1, SF2, DCrd0, DCqa0, DCqa1, DCqa2, DCe0, DCe1, DCe2, DDb0, DBc0, DBc1, DLa0, DCg0, DCqk0, DCpd0, DCrk0, DAlh0]
      refine kthen_n (awpK_seq S (sx_sound (bl := []) T_tt _ _ _ ?_))
      simp (disch := omega) only [SX0, SX1, SX2, SX3, SX4, SX5, SX6, SX7, SX8, SU0, SY0, SY1, Nat.reduceAdd, Nat.reduceMul, Nat.reduceSub, Nat.reduceLeDiff, Nat.reduceEqDiff, Nat.reduceLT, Nat.reduceBEq, ↓reduceIte, Int.reduceLE, Int.reduceLT, Int.reduceToNat, Int.reduceNeg, reduceCtorEq, Int.reduceEq, SF0, SF1, SF2, DCrd0, DCqa0, DCqa1, DCqa2, DCe0, DCe1, DCe2, DDb0, DBc0, DBc1, DLa0, DCg0, DCqk0, DCpd0, DCrk0, DAlh0]
      refine br_dec (fun h7 => ?_) (fun h7 => ?_)
      · simp (disch := omega) only [SX0, SX1, SX2, SX3, SX4, SX5, SX6, SX7, SX8, SU0, SY0, SY1, Nat.reduceAdd, Nat.reduceMul, Nat.reduceSub, Nat.reduceLeDiff, Nat.reduceEqDiff, Nat.reduceLT, Nat.reduceBEq, ↓reduceIte, Int.reduceLE, Int.reduceLT, Int.reduceToNat, Int.reduceNeg, reduceCtorEq, Int.reduceEq, SF0, SF1, SF2, DCrd0, DCqa0, DCqa1, DCqa2, DCe0, DCe1, DCe2, DDb0, DBc0, DBc1, DLa0, DCg0, DCqk0, DCpd0, DCrk0, DAlh0]
        exact bad (ord_many h1 hno (by omega))
      · have rk := readLine_k p hpl
        simp (disch := omega) only [SX0, SX1, SX2, SX3, SX4, SX5, SX6, SX7, SX8, SU0, SY0, SY1, Nat.reduceAdd, Nat.reduceMul, Nat.reduceSub, Nat.reduceLeDiff, Nat.reduceEqDiff, Nat.reduceLT, Nat.reduceBEq, ↓reduceIte, Int.reduceLE, Int.reduceLT, Int.reduceToNat, Int.reduceNeg, reduceCtorEq, Int.reduceEq, SF0, SF1, SF2, DCrd0, DCqa0, DCqa1, DCqa2, DCe0, DCe1, DCe2, DDb0, DBc0, DBc1, DLa0, DCg0, DCqk0, DCpd0, DCrk0, DAlh0]
        refine kthen_n (awpK_seqK S (awpK_region (bl := []) S T_tt 1 ?_))
        simp (disch := omega) only [SX0, SX1, SX2, SX3, SX4, SX5, SX6, SX7, SX8, SU0, SY0, SY1, Nat.reduceAdd, Nat.reduceMul, Nat.reduceSub, Nat.reduceLeDiff, Nat.reduceEqDiff, Nat.reduceLT, Nat.reduceBEq, ↓reduceIte, Int.reduceLE, Int.reduceLT, Int.reduceToNat, Int.reduceNeg, reduceCtorEq, Int.reduceEq, SF0, SF1, SF2, DCrd0, DCqa0, DCqa1, DCqa2, DCe0, DCe1, DCe2, DDb0, DBc0, DBc1, DLa0, DCg0, DCqk0, DCpd0, DCrk0, DAlh0]
        refine ⟨_, _, _, _, _, rfl, rfl, rfl, ?_⟩
        simp (disch := omega) only [SX0, SX1, SX2, SX3, SX4, SX5, SX6, SX7, SX8, SU0, SY0, SY1, Nat.reduceAdd, Nat.reduceMul, Nat.reduceSub, Nat.reduceLeDiff, Nat.reduceEqDiff, Nat.reduceLT, Nat.reduceBEq, ↓reduceIte, Int.reduceLE, Int.reduceLT, Int.reduceToNat, Int.reduceNeg, reduceCtorEq, Int.reduceEq, SF0, SF1, SF2, DCrd0, DCqa0, DCqa1, DCqa2, DCe0, DCe1, DCe2, DDb0, DBc0, DBc1, DLa0, DCg0, DCqk0, DCpd0, DCrk0, DAlh0]
        cases hrl : rlI (sp 32 p) with
        | none =>
          rw [hrl, lnR_none] at rk
          refine kcall_one H rk rfl rfl ?_
          simp (disch := omega) only [SX0, SX1, SX2, SX3, SX4, SX5, SX6, SX7, SX8, SU0, SY0, SY1, Nat.reduceAdd, Nat.reduceMul, Nat.reduceSub, Nat.reduceLeDiff, Nat.reduceEqDiff, Nat.reduceLT, Nat.reduceBEq, ↓reduceIte, Int.reduceLE, Int.reduceLT, Int.reduceToNat, Int.reduceNeg, reduceCtorEq, Int.reduceEq, SF0, SF1, SF2, DCrd0, DCqa0, DCqa1, DCqa2, DCe0, DCe1, DCe2, DDb0, DBc0, DBc1, DLa0, DCg0, DCqk0, DCpd0, DCrk0, DAlh0]
          refine kthen_n (awpK_seq S (sx_sound (bl := []) T_tt _ _ _ ?_))
          simp (disch := omega) only [SX0, SX1, SX2, SX3, SX4, SX5, SX6, SX7, SX8, SU0, SY0, SY1, Nat.reduceAdd, Nat.reduceMul, Nat.reduceSub, Nat.reduceLeDiff, Nat.reduceEqDiff, Nat.reduceLT, Nat.reduceBEq, ↓reduceIte, Int.reduceLE, Int.reduceLT, Int.reduceToNat, Int.reduceNeg, reduceCtorEq, Int.reduceEq, SF0, SF1, SF2, DCrd0, DCqa0, DCqa1, DCqa2, DCe0, DCe1, DCe2, DDb0, DBc0, DBc1, DLa0, DCg0, DCqk0, DCpd0, DCrk0, DAlh0]
          exact bad (ord_bad h1 hno hrl)
        | some x =>
          rw [hrl, lnR_some] at rk
          refine kcall_one H rk rfl rfl ?_
          simp (disch := omega) only [SX0, SX1, SX2, SX3, SX4, SX5, SX6, SX7, SX8, SU0, SY0, SY1, Nat.reduceAdd, Nat.reduceMul, Nat.reduceSub, Nat.reduceLeDiff, Nat.reduceEqDiff, Nat.reduceLT, Nat.reduceBEq, ↓reduceIte, Int.reduceLE, Int.reduceLT, Int.reduceToNat, Int.reduceNeg, reduceCtorEq, Int.reduceEq, SF0, SF1, SF2, DCrd0, DCqa0, DCqa1, DCqa2, DCe0, DCe1, DCe2, DDb0, DBc0, DBc1, DLa0, DCg0, DCqk0, DCpd0, DCrk0, DAlh0]
          refine kthen_n (awpK_seq S (sx_sound (bl := []) T_tt _ _ _ ?_))
          simp (disch := omega) only [SX0, SX1, SX2, SX3, SX4, SX5, SX6, SX7, SX8, SU0, SY0, SY1, Nat.reduceAdd, Nat.reduceMul, Nat.reduceSub, Nat.reduceLeDiff, Nat.reduceEqDiff, Nat.reduceLT, Nat.reduceBEq, ↓reduceIte, Int.reduceLE, Int.reduceLT, Int.reduceToNat, Int.reduceNeg, reduceCtorEq, Int.reduceEq, SF0, SF1, SF2, DCrd0, DCqa0, DCqa1, DCqa2, DCe0, DCe1, DCe2, DDb0, DBc0, DBc1, DLa0, DCg0, DCqk0, DCpd0, DCrk0, DAlh0]
          refine kthen_n (awpK_of (sx_sound (bl := []) T_tt _ _ _ ?_))
          simp (disch := omega) only [SX0, SX1, SX2, SX3, SX4, SX5, SX6, SX7, SX8, SU0, SY0, SY1, Nat.reduceAdd, Nat.reduceMul, Nat.reduceSub, Nat.reduceLeDiff, Nat.reduceEqDiff, Nat.reduceLT, Nat.reduceBEq, ↓reduceIte, Int.reduceLE, Int.reduceLT, Int.reduceToNat, Int.reduceNeg, reduceCtorEq, Int.reduceEq, SF0, SF1, SF2, DCrd0, DCqa0, DCqa1, DCqa2, DCe0, DCe1, DCe2, DDb0, DBc0, DBc1, DLa0, DCg0, DCqk0, DCpd0, DCrk0, DAlh0]
          refine req (by omega) ?_
          simp (disch := omega) only [SX0, SX1, SX2, SX3, SX4, SX5, SX6, SX7, SX8, SU0, SY0, SY1, Nat.reduceAdd, Nat.reduceMul, Nat.reduceSub, Nat.reduceLeDiff, Nat.reduceEqDiff, Nat.reduceLT, Nat.reduceBEq, ↓reduceIte, Int.reduceLE, Int.reduceLT, Int.reduceToNat, Int.reduceNeg, reduceCtorEq, Int.reduceEq, SF0, SF1, SF2, DCrd0, DCqa0, DCqa1, DCqa2, DCe0, DCe1, DCe2, DDb0, DBc0, DBc1, DLa0, DCg0, DCqk0, DCpd0, DCrk0, DAlh0]
          refine ⟨(r, ts ++ [p], ls ++ [x]), ⟨(ord_drop h1 hno).1, ?_, ?_, ?_, ?_⟩, ?_, ?_⟩
          · simp only
            rw [readAll_snoc, h2, rl_some hrl]
            rfl
          · simp only [List.length_append, List.length_cons, List.length_nil]
            omega
          · simp only
            simp at h4
            omega
          · simp only [List.mem_append, List.mem_singleton]
            rintro y (hy | rfl)
            · exact h5 y hy
            · exact rlI_rng hrl
          · simp only [List.length_append, List.length_cons]
            omega
          · simp only [List.map_append, List.map_cons, List.map_nil, List.length_append, List.length_cons, List.length_nil, Nat.zero_add]
            (refine wk_le ?_ ?_ ?_; (focus (simp [W8, leTm, leAV, AV.under, underL]; done)); (focus (simp [leL, OB.under, underL, AV.under]; done)); (focus (simp; done)))
  · subst h6
    have he := ord_end h1 h2
    simp (disch := omega) only [SX0, SX1, SX2, SX3, SX4, SX5, SX6, SX7, SX8, SU0, SY0, SY1, Nat.reduceAdd, Nat.reduceMul, Nat.reduceSub, Nat.reduceLeDiff, Nat.reduceEqDiff, Nat.reduceLT, Nat.reduceBEq, ↓reduceIte, Int.reduceLE, Int.reduceLT, Int.reduceToNat, Int.reduceNeg, reduceCtorEq, Int.reduceEq, SF0, SF1, SF2, DCrd0, DCqa0, DCqa1, DCqa2, DCe0, DCe1, DCe2, DDb0, DBc0, DBc1, DLa0, DCg0, DCqk0, DCpd0, DCrk0, DAlh0]
    refine kthen_n (awpK_of (sx_sound (bl := []) T_tt _ _ _ ?_))
    simp (disch := omega) only [SX0, SX1, SX2, SX3, SX4, SX5, SX6, SX7, SX8, SU0, SY0, SY1, Nat.reduceAdd, Nat.reduceMul, Nat.reduceSub, Nat.reduceLeDiff, Nat.reduceEqDiff, Nat.reduceLT, Nat.reduceBEq, ↓reduceIte, Int.reduceLE, Int.reduceLT, Int.reduceToNat, Int.reduceNeg, reduceCtorEq, Int.reduceEq, SF0, SF1, SF2, DCrd0, DCqa0, DCqa1, DCqa2, DCe0, DCe1, DCe2, DDb0, DBc0, DBc1, DLa0, DCg0, DCqk0, DCpd0, DCrk0, DAlh0]
    refine acall_tell (validOrderI_c ls (by omega) h5) (by exact ⟨.row 0 5 ls.length _ rfl (by simp), trivial⟩) ?_
    simp (disch := omega) only [SX0, SX1, SX2, SX3, SX4, SX5, SX6, SX7, SX8, SU0, SY0, SY1, Nat.reduceAdd, Nat.reduceMul, Nat.reduceSub, Nat.reduceLeDiff, Nat.reduceEqDiff, Nat.reduceLT, Nat.reduceBEq, ↓reduceIte, Int.reduceLE, Int.reduceLT, Int.reduceToNat, Int.reduceNeg, reduceCtorEq, Int.reduceEq, SF0, SF1, SF2, DCrd0, DCqa0, DCqa1, DCqa2, DCe0, DCe1, DCe2, DDb0, DBc0, DBc1, DLa0, DCg0, DCqk0, DCpd0, DCrk0, DAlh0]
    refine br_ndec (fun h7 => ?_) (fun h7 => ?_)
    · simp (disch := omega) only [SX0, SX1, SX2, SX3, SX4, SX5, SX6, SX7, SX8, SU0, SY0, SY1, Nat.reduceAdd, Nat.reduceMul, Nat.reduceSub, Nat.reduceLeDiff, Nat.reduceEqDiff, Nat.reduceLT, Nat.reduceBEq, ↓reduceIte, Int.reduceLE, Int.reduceLT, Int.reduceToNat, Int.reduceNeg, reduceCtorEq, Int.reduceEq, SF0, SF1, SF2, DCrd0, DCqa0, DCqa1, DCqa2, DCe0, DCe1, DCe2, DDb0, DBc0, DBc1, DLa0, DCg0, DCqk0, DCpd0, DCrk0, DAlh0]
      rw [if_neg h7] at he
      exact bad he
    · simp (disch := omega) only [SX0, SX1, SX2, SX3, SX4, SX5, SX6, SX7, SX8, SU0, SY0, SY1, Nat.reduceAdd, Nat.reduceMul, Nat.reduceSub, Nat.reduceLeDiff, Nat.reduceEqDiff, Nat.reduceLT, Nat.reduceBEq, ↓reduceIte, Int.reduceLE, Int.reduceLT, Int.reduceToNat, Int.reduceNeg, reduceCtorEq, Int.reduceEq, SF0, SF1, SF2, DCrd0, DCqa0, DCqa1, DCqa2, DCe0, DCe1, DCe2, DDb0, DBc0, DBc1, DLa0, DCg0, DCqk0, DCpd0, DCrk0, DAlh0]
      rw [if_pos h7] at he
      rw [he]
      exact fin_ks [0] (.tup [.os 0 5 0 ls.length, .val (.bool true)]) [.vec 5 (ls.map Ln.cs)] ⟨rfl, rfl⟩ rfl ⟨rfl, trivial⟩ (by simp) (by simp) (by simp)
end Go.Pc
