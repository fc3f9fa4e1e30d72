/- Texts that are read: the reference. -/
import Derived.Test.YtajkeegikligcaaDoorCra
import Derived.Test.YtajkeegikligcaaDoorCql
set_option linter.unusedSimpArgs false
set_option linter.unusedVariables false
namespace Go.Pc
open Go Go.Proofs Go.Lib

theorem strB_part (l : List UInt8) (a b : Nat) : (strB l).extract a b = strB ((l.drop a).take (b - a)) := by
  rw [← data_strB ((strB l).extract a b), Lib.extract_data, strB_data]
theorem strB_get (l : List UInt8) (i : Nat) : (strB l)[i]? = l[i]? := by
  rcases Nat.lt_or_ge i l.length with h | h
  · rw [List.getElem?_eq_getElem h, getElem?_pos (strB l) i (by show i < (strB l).size; rw [strB_size]; exact h)]
    rfl
  · rw [List.getElem?_eq_none h, getElem?_neg (strB l) i (by show ¬ i < (strB l).size; rw [strB_size]; omega)]
theorem qSlice_str2 {T : TypeId → Ty} {t : TypeId} (hk : (T t).kd = .str) {s : ByteArray} {a : Nat} (ha : a ≤ s.size) {K : AV → Prop} (h : K (.val (.string (s.extract a s.size)))) : qSlice T t (.val (.string s)) (some (.val (.int .i64 (a : Int)))) none none K := by
  refine ⟨rfl, ?_⟩
  rw [hk]
  exact ⟨a, by simp [bnd], s.size, by simp [bnd], ha, Nat.le_refl _, h⟩

theorem e_splitAt : Enters Tryd.prog 38 := enters_of Tryd.func38 (by kernel_rfl) (by kernel_rfl)
set_option maxHeartbeats 2000000 in
theorem splitAt_o (s : List UInt8) (c : UInt8) (hs : s.length ≤ 1048576) : ACalls Tryd.prog 38 [.val (.string (strB s)), .val (.int .u8 c.toNat)] [] [] (fun r L => r = .os 0 1 0 (sp c s).length ∧ L = [.vec 1 (strs (sp c s))]) := by
  refine acalls_tm T_tt Tryd.func38 rfl e_splitAt 33 rfl (W8 _ _ .any .any .any .any .any .any (W8 .any .any .any .any .any .any .any .any (W8 .any .any .any .any .any .any .any .any (W8 .any .any .any .any .any .any .any .any [.any, .any, .any])))) rfl (rv := [.tmp 4]) rfl (sx_sound (bl := [8]) T_tt _ _ _ ?_)
  simp (disch := omega) only [SX0, SX1, SX2, SX3, SX4, SX5, SX6, SX7, SX8, SU0, SY0, SY1, Nat.reduceAdd, Nat.reduceMul, Nat.reduceSub, Nat.reduceLeDiff, Nat.reduceEqDiff, Nat.reduceLT, Nat.reduceBEq, ↓reduceIte, Int.reduceLE, Int.reduceLT, Int.reduceToNat, Int.reduceNeg, reduceCtorEq, Int.reduceEq, SF0, SF1, SF2, DCqa0, DCqa1, DCqa2, DCe0, DCe1, DCe2, DDb0, DBc0, DBc1, DLa0, DCg0, DCqk0, DCpd0]
  with_reducible refine awp_loop_h (G := Nat × List (List UInt8) × List UInt8) 5 30 (fun g => [(5, .os 0 1 0 g.2.1.length), (6, .val (.int .i64 (g.1 - g.2.2.length : Nat))), (7, .val (.int .i64 g.1))]) (fun g => [.vec 1 (strs g.2.1)]) (fun g => g.1 ≤ s.length ∧ sp c (s.take g.1) = g.2.1 ++ [g.2.2] ∧ g.2.2.length ≤ g.1 ∧ g.2.2 = (s.take g.1).drop (g.1 - g.2.2.length)) (fun g => s.length - g.1) (0, [], []) ⟨Nat.zero_le _, by simp [sp], by simp, by simp⟩ ?_ (fun g hg => sx_sound (bl := []) T_tt _ _ _ ?_)
  · simp (disch := omega) only [SX0, SX1, SX2, SX3, SX4, SX5, SX6, SX7, SX8, SU0, SY0, SY1, Nat.reduceAdd, Nat.reduceMul, Nat.reduceSub, Nat.reduceLeDiff, Nat.reduceEqDiff, Nat.reduceLT, Nat.reduceBEq, ↓reduceIte, Int.reduceLE, Int.reduceLT, Int.reduceToNat, Int.reduceNeg, reduceCtorEq, Int.reduceEq, SF0, SF1, SF2, DCqa0, DCqa1, DCqa2, DCe0, DCe1, DCe2, DDb0, DBc0, DBc1, DLa0, DCg0, DCqk0, DCpd0]
    (refine wk_le ?_ ?_ ?_; (focus (simp [W8, leTm, leAV, AV.under, underL, strs]; done)); (focus (simp [leL, OB.under, underL, AV.under, strs]; done)); (focus (simp; done)))
  simp (disch := omega) only [SX0, SX1, SX2, SX3, SX4, SX5, SX6, SX7, SX8, SU0, SY0, SY1, Nat.reduceAdd, Nat.reduceMul, Nat.reduceSub, Nat.reduceLeDiff, Nat.reduceEqDiff, Nat.reduceLT, Nat.reduceBEq, ↓reduceIte, Int.reduceLE, Int.reduceLT, Int.reduceToNat, Int.reduceNeg, reduceCtorEq, Int.reduceEq, SF0, SF1, SF2, DCqa0, DCqa1, DCqa2, DCe0, DCe1, DCe2, DDb0, DBc0, DBc1, DLa0, DCg0, DCqk0, DCpd0, strB_size]
  obtain ⟨i, outs, cur⟩ := g
  obtain ⟨hi, hsp, hc1, hc2⟩ := hg
  refine br_dec (fun h1 => ?_) (fun h1 => ?_)
  · obtain ⟨b, hb⟩ := get_lt (l := s) (i := i) (by omega)
    have hsn := sp_snoc (b := b) hsp
    have htk : s.take i ++ [b] = s.take (i + 1) := by rw [List.take_add_one, hb]; rfl
    simp (disch := omega) only [SX0, SX1, SX2, SX3, SX4, SX5, SX6, SX7, SX8, SU0, SY0, SY1, Nat.reduceAdd, Nat.reduceMul, Nat.reduceSub, Nat.reduceLeDiff, Nat.reduceEqDiff, Nat.reduceLT, Nat.reduceBEq, ↓reduceIte, Int.reduceLE, Int.reduceLT, Int.reduceToNat, Int.reduceNeg, reduceCtorEq, Int.reduceEq, SF0, SF1, SF2, DCqa0, DCqa1, DCqa2, DCe0, DCe1, DCe2, DDb0, DBc0, DBc1, DLa0, DCg0, DCqk0, DCpd0, strB_get, hb]
    rw [htk] at hsn
    have hol : outs.length ≤ s.length := by
      have := sp_len c (s.take i)
      rw [hsp, List.length_append, List.length_take] at this
      simp at this
      omega
    have ex : (strB s).extract (i - cur.length) i = strB cur := by
      rw [strB_part, ← List.drop_take, ← hc2]
    refine br_dec (fun h2 => ?_) (fun h2 => ?_)
    · have hbc : b = c := UInt8.toNat_inj.1 (by omega)
      rw [if_pos hbc] at hsn
      simp (disch := omega) only [SX0, SX1, SX2, SX3, SX4, SX5, SX6, SX7, SX8, SU0, SY0, SY1, Nat.reduceAdd, Nat.reduceMul, Nat.reduceSub, Nat.reduceLeDiff, Nat.reduceEqDiff, Nat.reduceLT, Nat.reduceBEq, ↓reduceIte, Int.reduceLE, Int.reduceLT, Int.reduceToNat, Int.reduceNeg, reduceCtorEq, Int.reduceEq, SF0, SF1, SF2, DCqa0, DCqa1, DCqa2, DCe0, DCe1, DCe2, DDb0, DBc0, DBc1, DLa0, DCg0, DCqk0, DCpd0]
      refine qSlice_str (by rw [T_9]) (by omega) (by rw [strB_size]; omega) ?_
      simp (disch := omega) only [SX0, SX1, SX2, SX3, SX4, SX5, SX6, SX7, SX8, SU0, SY0, SY1, Nat.reduceAdd, Nat.reduceMul, Nat.reduceSub, Nat.reduceLeDiff, Nat.reduceEqDiff, Nat.reduceLT, Nat.reduceBEq, ↓reduceIte, Int.reduceLE, Int.reduceLT, Int.reduceToNat, Int.reduceNeg, reduceCtorEq, Int.reduceEq, SF0, SF1, SF2, DCqa0, DCqa1, DCqa2, DCe0, DCe1, DCe2, DDb0, DBc0, DBc1, DLa0, DCg0, DCqk0, DCpd0, ex]
      refine req (by simp [strs]; omega) ?_
      simp (disch := omega) only [SX0, SX1, SX2, SX3, SX4, SX5, SX6, SX7, SX8, SU0, SY0, SY1, Nat.reduceAdd, Nat.reduceMul, Nat.reduceSub, Nat.reduceLeDiff, Nat.reduceEqDiff, Nat.reduceLT, Nat.reduceBEq, ↓reduceIte, Int.reduceLE, Int.reduceLT, Int.reduceToNat, Int.reduceNeg, reduceCtorEq, Int.reduceEq, SF0, SF1, SF2, DCqa0, DCqa1, DCqa2, DCe0, DCe1, DCe2, DDb0, DBc0, DBc1, DLa0, DCg0, DCqk0, DCpd0]
      refine ⟨(i + 1, outs ++ [cur], []), ⟨by simp only; omega, by simpa using hsn, by simp, by simp⟩, by simp only; omega, ?_⟩
      simp only [strs, List.map_append, List.map_cons, List.map_nil, List.length_append, List.length_cons, List.length_nil, Nat.zero_add, Nat.sub_zero]
      (refine wk_le ?_ ?_ ?_; (focus (simp [W8, leTm, leAV, AV.under, underL, strs]; done)); (focus (simp [leL, OB.under, underL, AV.under, strs]; done)); (focus (simp; done)))
    · have hbc : b ≠ c := fun e => h2 (by rw [e])
      rw [if_neg hbc] at hsn
      simp (disch := omega) only [SX0, SX1, SX2, SX3, SX4, SX5, SX6, SX7, SX8, SU0, SY0, SY1, Nat.reduceAdd, Nat.reduceMul, Nat.reduceSub, Nat.reduceLeDiff, Nat.reduceEqDiff, Nat.reduceLT, Nat.reduceBEq, ↓reduceIte, Int.reduceLE, Int.reduceLT, Int.reduceToNat, Int.reduceNeg, reduceCtorEq, Int.reduceEq, SF0, SF1, SF2, DCqa0, DCqa1, DCqa2, DCe0, DCe1, DCe2, DDb0, DBc0, DBc1, DLa0, DCg0, DCqk0, DCpd0]
      refine ⟨(i + 1, outs, cur ++ [b]), ⟨by simp only; omega, hsn, by simp; omega, ?_⟩, by simp only; omega, ?_⟩
      · simp only [List.length_append, List.length_cons, List.length_nil, Nat.zero_add]
        rw [← htk, show i + 1 - (cur.length + 1) = i - cur.length by omega, List.drop_append_of_le_length (by rw [List.length_take]; omega), ← hc2]
      · simp only [List.length_append, List.length_cons, List.length_nil, Nat.zero_add]
        rw [show i + 1 - (cur.length + 1) = i - cur.length by omega]
        (refine wk_le ?_ ?_ ?_; (focus (simp [W8, leTm, leAV, AV.under, underL, strs]; done)); (focus (simp [leL, OB.under, underL, AV.under, strs]; done)); (focus (simp; done)))
  · have hil : i = s.length := by omega
    rw [List.take_of_length_le (by omega)] at hsp hc2
    have hol : outs.length ≤ s.length := by
      have := sp_len c s
      rw [hsp, List.length_append] at this
      simp at this
      omega
    have ex : (strB s).extract (i - cur.length) (strB s).size = strB cur := by
      rw [strB_part, strB_size, ← List.drop_take, List.take_length, ← hc2]
    simp (disch := omega) only [SX0, SX1, SX2, SX3, SX4, SX5, SX6, SX7, SX8, SU0, SY0, SY1, Nat.reduceAdd, Nat.reduceMul, Nat.reduceSub, Nat.reduceLeDiff, Nat.reduceEqDiff, Nat.reduceLT, Nat.reduceBEq, ↓reduceIte, Int.reduceLE, Int.reduceLT, Int.reduceToNat, Int.reduceNeg, reduceCtorEq, Int.reduceEq, SF0, SF1, SF2, DCqa0, DCqa1, DCqa2, DCe0, DCe1, DCe2, DDb0, DBc0, DBc1, DLa0, DCg0, DCqk0, DCpd0]
    refine qSlice_str2 (by rw [T_9]) (by rw [strB_size]; omega) ?_
    simp (disch := omega) only [SX0, SX1, SX2, SX3, SX4, SX5, SX6, SX7, SX8, SU0, SY0, SY1, Nat.reduceAdd, Nat.reduceMul, Nat.reduceSub, Nat.reduceLeDiff, Nat.reduceEqDiff, Nat.reduceLT, Nat.reduceBEq, ↓reduceIte, Int.reduceLE, Int.reduceLT, Int.reduceToNat, Int.reduceNeg, reduceCtorEq, Int.reduceEq, SF0, SF1, SF2, DCqa0, DCqa1, DCqa2, DCe0, DCe1, DCe2, DDb0, DBc0, DBc1, DLa0, DCg0, DCqk0, DCpd0, ex]
    refine req (by simp [strs]; omega) ?_
    simp (disch := omega) only [SX0, SX1, SX2, SX3, SX4, SX5, SX6, SX7, SX8, SU0, SY0, SY1, Nat.reduceAdd, Nat.reduceMul, Nat.reduceSub, Nat.reduceLeDiff, Nat.reduceEqDiff, Nat.reduceLT, Nat.reduceBEq, ↓reduceIte, Int.reduceLE, Int.reduceLT, Int.reduceToNat, Int.reduceNeg, reduceCtorEq, Int.reduceEq, SF0, SF1, SF2, DCqa0, DCqa1, DCqa2, DCe0, DCe1, DCe2, DDb0, DBc0, DBc1, DLa0, DCg0, DCqk0, DCpd0]
    rw [hsp]
    exact fin_own rfl ⟨by simp, by simp [strs]⟩
theorem splitAt_c (s : List UInt8) (c : UInt8) (hs : s.length ≤ 1048576) : ACalls Tryd.prog 38 [.val (.string (strB s)), .val (.int .u8 c.toNat)] [] [] (fun r L => r = .sl (strs (sp c s)) ∧ L = []) := by
  have := (splitAt_o s c hs).mono (R' := fun r L => r = .os 0 1 0 (strs (sp c s)).length ∧ L = [.vec 1 (strs (sp c s))]) (fun r L h => by simpa [strs] using h)
  exact this.frozen rfl
end Go.Pc
