/- Texts that are read: numbers and lines, in the reference and in the program. -/
import Derived.Test.YtajkeegikligcaaDoorCrb
import Derived.Test.YtajkeegikligcaaDoorCrk
set_option linter.unusedSimpArgs false
set_option linter.unusedVariables false
namespace Go.Pc
open Go Go.Proofs Go.Lib

theorem valT_take {l : List UInt8} {i : Nat} {b : UInt8} (h : l[i]? = some b) : valT (l.take (i + 1)) = 10 * valT (l.take i) + (b.toNat - 48) := by
  rw [List.take_add_one, h]; exact valT_snoc _ _
theorem rn_pre {l : List UInt8} (h : rnOk l) (i : Nat) : valT (l.take i) ≤ 999999 := by
  have h1 := valT_lt (l := l.take i) fun b hb => h.2.2.2 b (List.mem_of_mem_take hb)
  have h2 : 10 ^ (l.take i).length ≤ 10 ^ 6 := Nat.pow_le_pow_right (by omega) (by rw [List.length_take]; have := h.2.1; omega)
  omega

theorem strB_inj (a b : List UInt8) : (strB a = strB b) = (a = b) := by
  refine propext ⟨fun h => ?_, fun h => by rw [h]⟩
  have := congrArg (fun x : ByteArray => x.data.toList) h
  exact this
theorem wrap8 {b : UInt8} (h : dig b) : IntKind.u8.wrap ((b.toNat : Int) - 48) = ((b.toNat - 48 : Nat) : Int) := by
  unfold dig at h
  simp [IntKind.wrap, IntKind.signed, IntKind.bits]
  omega
theorem wrap8' {n : Nat} (h : n ≤ 255) : IntKind.i64.wrap (n : Int) = n := wrap64 _ (by omega) (by omega)
theorem wrapV {v n : Nat} (h : v ≤ 99999999) (h2 : n ≤ 255) : IntKind.i64.wrap (10 * (v : Int) + n) = ((10 * v + n : Nat) : Int) := by
  rw [wrap64 _ (by omega) (by omega)]; omega

theorem e_readNumberS : Enters Tryd.prog 55 := enters_of Tryd.func55 (by kernel_rfl) (by kernel_rfl)
set_option maxHeartbeats 2000000 in
theorem readNumberS_c (s : List UInt8) (hs : s.length ≤ 1048576) : ACalls Tryd.prog 55 [.val (.string (strB s))] [] [] (fun r L => r = .val (.int .i64 (rn s)) ∧ L = []) := by
  have bad : ¬ rnOk s → rn s = -1 := fun h => by unfold rn; rw [if_neg h]
  refine acalls_tm T_tt Tryd.func55 rfl e_readNumberS 39 rfl (W8 _ .any .any .any .any .any .any .any (W8 .any .any .any .any .any .any .any .any (W8 .any .any .any .any .any .any .any .any (W8 .any .any .any .any .any .any .any .any (W8 .any .any .any .any .any .any .any .any []))))) rfl (rv := [.tmp 2]) rfl (sx_sound (bl := []) T_tt _ _ _ ?_)
  simp (disch := omega) only [SX0, SX1, SX2, SX3, SX4, SX5, SX6, SX7, SX8, SU0, SY0, SY1, Nat.reduceAdd, Nat.reduceMul, Nat.reduceSub, Nat.reduceLeDiff, Nat.reduceEqDiff, Nat.reduceLT, Nat.reduceBEq, ↓reduceIte, Int.reduceLE, Int.reduceLT, Int.reduceToNat, Int.reduceNeg, reduceCtorEq, Int.reduceEq, SF0, SF1, SF2, DCqa0, DCqa1, DCqa2, DCe0, DCe1, DCe2, DDb0, DBc0, DBc1, DLa0, DCg0, DCqk0, DCpd0, DCrk0]
  with_reducible refine awp_loop_h (G := Nat) 3 37 (fun i => [(3, .val (.int .i64 (valT (s.take i)))), (4, .val (.int .i64 i))]) (fun _ => []) (fun i => i ≤ s.length ∧ (∀ b ∈ s.take i, dig b) ∧ valT (s.take i) ≤ 999999) (fun i => s.length - i) 0 ⟨Nat.zero_le _, by simp, by simp [valT]⟩ ?_ (fun i hi => sx_sound (bl := []) T_tt _ _ _ ?_)
  · simp (disch := omega) only [SX0, SX1, SX2, SX3, SX4, SX5, SX6, SX7, SX8, SU0, SY0, SY1, Nat.reduceAdd, Nat.reduceMul, Nat.reduceSub, Nat.reduceLeDiff, Nat.reduceEqDiff, Nat.reduceLT, Nat.reduceBEq, ↓reduceIte, Int.reduceLE, Int.reduceLT, Int.reduceToNat, Int.reduceNeg, reduceCtorEq, Int.reduceEq, SF0, SF1, SF2, DCqa0, DCqa1, DCqa2, DCe0, DCe1, DCe2, DDb0, DBc0, DBc1, DLa0, DCg0, DCqk0, DCpd0, DCrk0]
    (refine wk_le ?_ ?_ ?_; (focus (simp [W8, leTm, leAV, AV.under, underL, valT]; done)); (focus (simp [leL, OB.under, underL, AV.under, valT]; done)); (focus (simp; done)))
  simp (disch := omega) only [SX0, SX1, SX2, SX3, SX4, SX5, SX6, SX7, SX8, SU0, SY0, SY1, Nat.reduceAdd, Nat.reduceMul, Nat.reduceSub, Nat.reduceLeDiff, Nat.reduceEqDiff, Nat.reduceLT, Nat.reduceBEq, ↓reduceIte, Int.reduceLE, Int.reduceLT, Int.reduceToNat, Int.reduceNeg, reduceCtorEq, Int.reduceEq, SF0, SF1, SF2, DCqa0, DCqa1, DCqa2, DCe0, DCe1, DCe2, DDb0, DBc0, DBc1, DLa0, DCg0, DCqk0, DCpd0, DCrk0, strB_size]
  obtain ⟨hi1, hi2, hi3⟩ := hi
  refine br_dec (fun h1 => ?_) (fun h1 => ?_)
  · obtain ⟨b, hb⟩ := get_lt (l := s) (i := i) (by omega)
    have hv := valT_take hb
    have hbm := List.mem_of_getElem? hb
    have hb8 := b.toNat_lt
    simp (disch := omega) only [SX0, SX1, SX2, SX3, SX4, SX5, SX6, SX7, SX8, SU0, SY0, SY1, Nat.reduceAdd, Nat.reduceMul, Nat.reduceSub, Nat.reduceLeDiff, Nat.reduceEqDiff, Nat.reduceLT, Nat.reduceBEq, ↓reduceIte, Int.reduceLE, Int.reduceLT, Int.reduceToNat, Int.reduceNeg, reduceCtorEq, Int.reduceEq, SF0, SF1, SF2, DCqa0, DCqa1, DCqa2, DCe0, DCe1, DCe2, DDb0, DBc0, DBc1, DLa0, DCg0, DCqk0, DCpd0, DCrk0, strB_get, hb]
    refine br_dec (fun h2 => ?_) (fun h2 => ?_)
    · simp (disch := omega) only [SX0, SX1, SX2, SX3, SX4, SX5, SX6, SX7, SX8, SU0, SY0, SY1, Nat.reduceAdd, Nat.reduceMul, Nat.reduceSub, Nat.reduceLeDiff, Nat.reduceEqDiff, Nat.reduceLT, Nat.reduceBEq, ↓reduceIte, Int.reduceLE, Int.reduceLT, Int.reduceToNat, Int.reduceNeg, reduceCtorEq, Int.reduceEq, SF0, SF1, SF2, DCqa0, DCqa1, DCqa2, DCe0, DCe1, DCe2, DDb0, DBc0, DBc1, DLa0, DCg0, DCqk0, DCpd0, DCrk0]
      exact fin_val ⟨by rw [bad fun hh => by have := hh.2.2.2 b hbm; unfold dig at this; omega], rfl⟩
    simp (disch := omega) only [SX0, SX1, SX2, SX3, SX4, SX5, SX6, SX7, SX8, SU0, SY0, SY1, Nat.reduceAdd, Nat.reduceMul, Nat.reduceSub, Nat.reduceLeDiff, Nat.reduceEqDiff, Nat.reduceLT, Nat.reduceBEq, ↓reduceIte, Int.reduceLE, Int.reduceLT, Int.reduceToNat, Int.reduceNeg, reduceCtorEq, Int.reduceEq, SF0, SF1, SF2, DCqa0, DCqa1, DCqa2, DCe0, DCe1, DCe2, DDb0, DBc0, DBc1, DLa0, DCg0, DCqk0, DCpd0, DCrk0, strB_get, hb]
    refine br_dec (fun h3 => ?_) (fun h3 => ?_)
    · simp (disch := omega) only [SX0, SX1, SX2, SX3, SX4, SX5, SX6, SX7, SX8, SU0, SY0, SY1, Nat.reduceAdd, Nat.reduceMul, Nat.reduceSub, Nat.reduceLeDiff, Nat.reduceEqDiff, Nat.reduceLT, Nat.reduceBEq, ↓reduceIte, Int.reduceLE, Int.reduceLT, Int.reduceToNat, Int.reduceNeg, reduceCtorEq, Int.reduceEq, SF0, SF1, SF2, DCqa0, DCqa1, DCqa2, DCe0, DCe1, DCe2, DDb0, DBc0, DBc1, DLa0, DCg0, DCqk0, DCpd0, DCrk0]
      exact fin_val ⟨by rw [bad fun hh => by have := hh.2.2.2 b hbm; unfold dig at this; omega], rfl⟩
    have hd : dig b := by unfold dig; omega
    have e8 := wrap8 hd
    have e64 := wrap8' (n := b.toNat - 48) (by omega)
    have ev := wrapV (v := valT (s.take i)) (n := b.toNat - 48) (by omega) (by omega)
    rw [← hv] at ev
    simp (disch := omega) only [SX0, SX1, SX2, SX3, SX4, SX5, SX6, SX7, SX8, SU0, SY0, SY1, Nat.reduceAdd, Nat.reduceMul, Nat.reduceSub, Nat.reduceLeDiff, Nat.reduceEqDiff, Nat.reduceLT, Nat.reduceBEq, ↓reduceIte, Int.reduceLE, Int.reduceLT, Int.reduceToNat, Int.reduceNeg, reduceCtorEq, Int.reduceEq, SF0, SF1, SF2, DCqa0, DCqa1, DCqa2, DCe0, DCe1, DCe2, DDb0, DBc0, DBc1, DLa0, DCg0, DCqk0, DCpd0, DCrk0, strB_get, hb, e8, e64, ev]
    refine br_dec (fun h4 => ?_) (fun h4 => ?_)
    · simp (disch := omega) only [SX0, SX1, SX2, SX3, SX4, SX5, SX6, SX7, SX8, SU0, SY0, SY1, Nat.reduceAdd, Nat.reduceMul, Nat.reduceSub, Nat.reduceLeDiff, Nat.reduceEqDiff, Nat.reduceLT, Nat.reduceBEq, ↓reduceIte, Int.reduceLE, Int.reduceLT, Int.reduceToNat, Int.reduceNeg, reduceCtorEq, Int.reduceEq, SF0, SF1, SF2, DCqa0, DCqa1, DCqa2, DCe0, DCe1, DCe2, DDb0, DBc0, DBc1, DLa0, DCg0, DCqk0, DCpd0, DCrk0]
      exact fin_val ⟨by rw [bad fun hh => by have := rn_pre hh (i + 1); omega], rfl⟩
    · simp (disch := omega) only [SX0, SX1, SX2, SX3, SX4, SX5, SX6, SX7, SX8, SU0, SY0, SY1, Nat.reduceAdd, Nat.reduceMul, Nat.reduceSub, Nat.reduceLeDiff, Nat.reduceEqDiff, Nat.reduceLT, Nat.reduceBEq, ↓reduceIte, Int.reduceLE, Int.reduceLT, Int.reduceToNat, Int.reduceNeg, reduceCtorEq, Int.reduceEq, SF0, SF1, SF2, DCqa0, DCqa1, DCqa2, DCe0, DCe1, DCe2, DDb0, DBc0, DBc1, DLa0, DCg0, DCqk0, DCpd0, DCrk0]
      refine ⟨i + 1, ⟨by omega, take_next hb hi2 hd, by omega⟩, by omega, ?_⟩
      (refine wk_le ?_ ?_ ?_; (focus (simp [W8, leTm, leAV, AV.under, underL]; done)); (focus (simp [leL, OB.under, underL, AV.under]; done)); (focus (simp; done)))
  · rw [List.take_of_length_le (by omega)] at hi2 hi3
    rw [List.take_of_length_le (by omega)]
    have c0 : (⟨#[]⟩ : ByteArray) = strB [] := rfl
    simp (disch := omega) only [SX0, SX1, SX2, SX3, SX4, SX5, SX6, SX7, SX8, SU0, SY0, SY1, Nat.reduceAdd, Nat.reduceMul, Nat.reduceSub, Nat.reduceLeDiff, Nat.reduceEqDiff, Nat.reduceLT, Nat.reduceBEq, ↓reduceIte, Int.reduceLE, Int.reduceLT, Int.reduceToNat, Int.reduceNeg, reduceCtorEq, Int.reduceEq, SF0, SF1, SF2, DCqa0, DCqa1, DCqa2, DCe0, DCe1, DCe2, DDb0, DBc0, DBc1, DLa0, DCg0, DCqk0, DCpd0, DCrk0, c0, strB_inj]
    refine br_dec (fun h2 => ?_) (fun h2 => ?_)
    · simp (disch := omega) only [SX0, SX1, SX2, SX3, SX4, SX5, SX6, SX7, SX8, SU0, SY0, SY1, Nat.reduceAdd, Nat.reduceMul, Nat.reduceSub, Nat.reduceLeDiff, Nat.reduceEqDiff, Nat.reduceLT, Nat.reduceBEq, ↓reduceIte, Int.reduceLE, Int.reduceLT, Int.reduceToNat, Int.reduceNeg, reduceCtorEq, Int.reduceEq, SF0, SF1, SF2, DCqa0, DCqa1, DCqa2, DCe0, DCe1, DCe2, DDb0, DBc0, DBc1, DLa0, DCg0, DCqk0, DCpd0, DCrk0]
      exact fin_val ⟨by rw [bad fun hh => hh.1 h2], rfl⟩
    · simp (disch := omega) only [SX0, SX1, SX2, SX3, SX4, SX5, SX6, SX7, SX8, SU0, SY0, SY1, Nat.reduceAdd, Nat.reduceMul, Nat.reduceSub, Nat.reduceLeDiff, Nat.reduceEqDiff, Nat.reduceLT, Nat.reduceBEq, ↓reduceIte, Int.reduceLE, Int.reduceLT, Int.reduceToNat, Int.reduceNeg, reduceCtorEq, Int.reduceEq, SF0, SF1, SF2, DCqa0, DCqa1, DCqa2, DCe0, DCe1, DCe2, DDb0, DBc0, DBc1, DLa0, DCg0, DCqk0, DCpd0, DCrk0]
      refine acall_one (numberS_c (valT s) (by omega)) rfl rfl ?_
      simp (disch := omega) only [SX0, SX1, SX2, SX3, SX4, SX5, SX6, SX7, SX8, SU0, SY0, SY1, Nat.reduceAdd, Nat.reduceMul, Nat.reduceSub, Nat.reduceLeDiff, Nat.reduceEqDiff, Nat.reduceLT, Nat.reduceBEq, ↓reduceIte, Int.reduceLE, Int.reduceLT, Int.reduceToNat, Int.reduceNeg, reduceCtorEq, Int.reduceEq, SF0, SF1, SF2, DCqa0, DCqa1, DCqa2, DCe0, DCe1, DCe2, DDb0, DBc0, DBc1, DLa0, DCg0, DCqk0, DCpd0, DCrk0, strB_inj]
      refine br_ndec (fun h3 => ?_) (fun h3 => ?_)
      · simp (disch := omega) only [SX0, SX1, SX2, SX3, SX4, SX5, SX6, SX7, SX8, SU0, SY0, SY1, Nat.reduceAdd, Nat.reduceMul, Nat.reduceSub, Nat.reduceLeDiff, Nat.reduceEqDiff, Nat.reduceLT, Nat.reduceBEq, ↓reduceIte, Int.reduceLE, Int.reduceLT, Int.reduceToNat, Int.reduceNeg, reduceCtorEq, Int.reduceEq, SF0, SF1, SF2, DCqa0, DCqa1, DCqa2, DCe0, DCe1, DCe2, DDb0, DBc0, DBc1, DLa0, DCg0, DCqk0, DCpd0, DCrk0]
        exact fin_val ⟨by rw [bad fun hh => h3 (dec_val hh.1 hh.2.2.1 hh.2.2.2).symm], rfl⟩
      · simp (disch := omega) only [SX0, SX1, SX2, SX3, SX4, SX5, SX6, SX7, SX8, SU0, SY0, SY1, Nat.reduceAdd, Nat.reduceMul, Nat.reduceSub, Nat.reduceLeDiff, Nat.reduceEqDiff, Nat.reduceLT, Nat.reduceBEq, ↓reduceIte, Int.reduceLE, Int.reduceLT, Int.reduceToNat, Int.reduceNeg, reduceCtorEq, Int.reduceEq, SF0, SF1, SF2, DCqa0, DCqa1, DCqa2, DCe0, DCe1, DCe2, DDb0, DBc0, DBc1, DLa0, DCg0, DCqk0, DCpd0, DCrk0]
        exact fin_val ⟨by unfold rn; rw [if_pos (rnOk_of_dec hi2 h3 hi3)], rfl⟩
theorem b48 {b : UInt8} (h : (b.toNat : Int) = 48) : b = 48 := UInt8.toNat_inj.1 (show b.toNat = 48 by omega)
def rni (s : List UInt8) : Int := if rnOk s then (valT s : Nat) else 0
theorem rni_no {s : List UInt8} (h : ¬ rnOk s) : rni s = 0 := by unfold rni; rw [if_neg h]

theorem e_readNumberI : Enters Tryd.prog 66 := enters_of Tryd.func66 (by kernel_rfl) (by kernel_rfl)
set_option maxHeartbeats 2000000 in
theorem readNumberI_c (s : List UInt8) (hs : s.length ≤ 1048576) : ACalls Tryd.prog 66 [.val (.string (strB s))] [] [] (fun r L => r = .tup [.val (.int .i64 (rni s)), .val (.bool (decide (rnOk s)))] ∧ L = []) := by
  have c0 : (⟨#[]⟩ : ByteArray) = strB [] := rfl
  have bad : ∀ {s' : AS}, ¬ rnOk s → Fin [] 0 (fun r L => r = .tup [.val (.int .i64 (rni s)), .val (.bool (decide (rnOk s)))] ∧ L = []) s' (.tup [.val (.int .i64 0), .val (.bool false)]) := fun h => fin_free rfl ⟨by rw [rni_no h, decide_eq_false h], rfl⟩
  refine acalls_tm T_tt Tryd.func66 rfl e_readNumberI 47 rfl (W8 _ .any .any .any .any .any .any .any (W8 .any .any .any .any .any .any .any .any (W8 .any .any .any .any .any .any .any .any (W8 .any .any .any .any .any .any .any .any (W8 .any .any .any .any .any .any .any .any (W8 .any .any .any .any .any .any .any .any [])))))) rfl (rv := [.tmp 2, .tmp 3]) rfl (sx_sound (bl := []) T_tt _ _ _ ?_)
  simp (disch := omega) only [SX0, SX1, SX2, SX3, SX4, SX5, SX6, SX7, SX8, SU0, SY0, SY1, Nat.reduceAdd, Nat.reduceMul, Nat.reduceSub, Nat.reduceLeDiff, Nat.reduceEqDiff, Nat.reduceLT, Nat.reduceBEq, ↓reduceIte, Int.reduceLE, Int.reduceLT, Int.reduceToNat, Int.reduceNeg, reduceCtorEq, Int.reduceEq, SF0, SF1, SF2, DCqa0, DCqa1, DCqa2, DCe0, DCe1, DCe2, DDb0, DBc0, DBc1, DLa0, DCg0, DCqk0, DCpd0, DCrk0, c0, strB_inj]
  refine br_dec (fun h1 => ?_) (fun h1 => ?_)
  · simp (disch := omega) only [SX0, SX1, SX2, SX3, SX4, SX5, SX6, SX7, SX8, SU0, SY0, SY1, Nat.reduceAdd, Nat.reduceMul, Nat.reduceSub, Nat.reduceLeDiff, Nat.reduceEqDiff, Nat.reduceLT, Nat.reduceBEq, ↓reduceIte, Int.reduceLE, Int.reduceLT, Int.reduceToNat, Int.reduceNeg, reduceCtorEq, Int.reduceEq, SF0, SF1, SF2, DCqa0, DCqa1, DCqa2, DCe0, DCe1, DCe2, DDb0, DBc0, DBc1, DLa0, DCg0, DCqk0, DCpd0, DCrk0]
    exact bad fun hh => hh.1 h1
  simp (disch := omega) only [SX0, SX1, SX2, SX3, SX4, SX5, SX6, SX7, SX8, SU0, SY0, SY1, Nat.reduceAdd, Nat.reduceMul, Nat.reduceSub, Nat.reduceLeDiff, Nat.reduceEqDiff, Nat.reduceLT, Nat.reduceBEq, ↓reduceIte, Int.reduceLE, Int.reduceLT, Int.reduceToNat, Int.reduceNeg, reduceCtorEq, Int.reduceEq, SF0, SF1, SF2, DCqa0, DCqa1, DCqa2, DCe0, DCe1, DCe2, DDb0, DBc0, DBc1, DLa0, DCg0, DCqk0, DCpd0, DCrk0, strB_size]
  refine br_dec (fun h2 => ?_) (fun h2 => ?_)
  · simp (disch := omega) only [SX0, SX1, SX2, SX3, SX4, SX5, SX6, SX7, SX8, SU0, SY0, SY1, Nat.reduceAdd, Nat.reduceMul, Nat.reduceSub, Nat.reduceLeDiff, Nat.reduceEqDiff, Nat.reduceLT, Nat.reduceBEq, ↓reduceIte, Int.reduceLE, Int.reduceLT, Int.reduceToNat, Int.reduceNeg, reduceCtorEq, Int.reduceEq, SF0, SF1, SF2, DCqa0, DCqa1, DCqa2, DCe0, DCe1, DCe2, DDb0, DBc0, DBc1, DLa0, DCg0, DCqk0, DCpd0, DCrk0]
    exact bad fun hh => by have := hh.2.1; omega
  obtain ⟨b0, g0⟩ : ∃ b0, s[0]? = some b0 := get_lt (by have := List.length_pos_iff.2 h1; omega)
  have hh0 : s.head? = some b0 := by rw [List.head?_eq_getElem?]; exact g0
  simp (disch := omega) only [SX0, SX1, SX2, SX3, SX4, SX5, SX6, SX7, SX8, SU0, SY0, SY1, Nat.reduceAdd, Nat.reduceMul, Nat.reduceSub, Nat.reduceLeDiff, Nat.reduceEqDiff, Nat.reduceLT, Nat.reduceBEq, ↓reduceIte, Int.reduceLE, Int.reduceLT, Int.reduceToNat, Int.reduceNeg, reduceCtorEq, Int.reduceEq, SF0, SF1, SF2, DCqa0, DCqa1, DCqa2, DCe0, DCe1, DCe2, DDb0, DBc0, DBc1, DLa0, DCg0, DCqk0, DCpd0, DCrk0, strB_get, g0]
  refine br_dec (fun h3 => ?_) (fun h3 => ?_)
  · simp (disch := omega) only [SX0, SX1, SX2, SX3, SX4, SX5, SX6, SX7, SX8, SU0, SY0, SY1, Nat.reduceAdd, Nat.reduceMul, Nat.reduceSub, Nat.reduceLeDiff, Nat.reduceEqDiff, Nat.reduceLT, Nat.reduceBEq, ↓reduceIte, Int.reduceLE, Int.reduceLT, Int.reduceToNat, Int.reduceNeg, reduceCtorEq, Int.reduceEq, SF0, SF1, SF2, DCqa0, DCqa1, DCqa2, DCe0, DCe1, DCe2, DDb0, DBc0, DBc1, DLa0, DCg0, DCqk0, DCpd0, DCrk0, strB_size]
    refine br_dec (fun h4 => ?_) (fun h4 => ?_)
    · simp (disch := omega) only [SX0, SX1, SX2, SX3, SX4, SX5, SX6, SX7, SX8, SU0, SY0, SY1, Nat.reduceAdd, Nat.reduceMul, Nat.reduceSub, Nat.reduceLeDiff, Nat.reduceEqDiff, Nat.reduceLT, Nat.reduceBEq, ↓reduceIte, Int.reduceLE, Int.reduceLT, Int.reduceToNat, Int.reduceNeg, reduceCtorEq, Int.reduceEq, SF0, SF1, SF2, DCqa0, DCqa1, DCqa2, DCe0, DCe1, DCe2, DDb0, DBc0, DBc1, DLa0, DCg0, DCqk0, DCpd0, DCrk0]
      exact bad fun hh => hh.2.2.1 ⟨by rw [hh0, b48 h3], by omega⟩
    have hz : ¬ (s.head? = some 48 ∧ 1 < s.length) := fun hc => by have := hc.2; omega
    simp (disch := omega) only [SX0, SX1, SX2, SX3, SX4, SX5, SX6, SX7, SX8, SU0, SY0, SY1, Nat.reduceAdd, Nat.reduceMul, Nat.reduceSub, Nat.reduceLeDiff, Nat.reduceEqDiff, Nat.reduceLT, Nat.reduceBEq, ↓reduceIte, Int.reduceLE, Int.reduceLT, Int.reduceToNat, Int.reduceNeg, reduceCtorEq, Int.reduceEq, SF0, SF1, SF2, DCqa0, DCqa1, DCqa2, DCe0, DCe1, DCe2, DDb0, DBc0, DBc1, DLa0, DCg0, DCqk0, DCpd0, DCrk0, strB_size]
    with_reducible refine awp_loop_h (G := Nat) 4 44 (fun i => [(4, .val (.int .i64 (valT (s.take i)))), (24, .val (.int .i64 s.length)), (25, .val (.int .i64 i))]) (fun _ => []) (fun i => i ≤ s.length ∧ ∀ b ∈ s.take i, dig b) (fun i => s.length - i) 0 ⟨Nat.zero_le _, by simp⟩ ?_ (fun i hi => sx_sound (bl := []) T_tt _ _ _ ?_)
    · simp (disch := omega) only [SX0, SX1, SX2, SX3, SX4, SX5, SX6, SX7, SX8, SU0, SY0, SY1, Nat.reduceAdd, Nat.reduceMul, Nat.reduceSub, Nat.reduceLeDiff, Nat.reduceEqDiff, Nat.reduceLT, Nat.reduceBEq, ↓reduceIte, Int.reduceLE, Int.reduceLT, Int.reduceToNat, Int.reduceNeg, reduceCtorEq, Int.reduceEq, SF0, SF1, SF2, DCqa0, DCqa1, DCqa2, DCe0, DCe1, DCe2, DDb0, DBc0, DBc1, DLa0, DCg0, DCqk0, DCpd0, DCrk0]
      (refine wk_le ?_ ?_ ?_; (focus (simp [W8, leTm, leAV, AV.under, underL, valT]; done)); (focus (simp [leL, OB.under, underL, AV.under, valT]; done)); (focus (simp; done)))
    simp (disch := omega) only [SX0, SX1, SX2, SX3, SX4, SX5, SX6, SX7, SX8, SU0, SY0, SY1, Nat.reduceAdd, Nat.reduceMul, Nat.reduceSub, Nat.reduceLeDiff, Nat.reduceEqDiff, Nat.reduceLT, Nat.reduceBEq, ↓reduceIte, Int.reduceLE, Int.reduceLT, Int.reduceToNat, Int.reduceNeg, reduceCtorEq, Int.reduceEq, SF0, SF1, SF2, DCqa0, DCqa1, DCqa2, DCe0, DCe1, DCe2, DDb0, DBc0, DBc1, DLa0, DCg0, DCqk0, DCpd0, DCrk0, strB_size]
    obtain ⟨hi1, hi2⟩ := hi
    refine br_dec (fun h5 => ?_) (fun h5 => ?_)
    · obtain ⟨b, hb⟩ := get_lt (l := s) (i := i) (by omega)
      have hv := valT_take hb
      have hbm := List.mem_of_getElem? hb
      have hb8 := b.toNat_lt
      simp (disch := omega) only [SX0, SX1, SX2, SX3, SX4, SX5, SX6, SX7, SX8, SU0, SY0, SY1, Nat.reduceAdd, Nat.reduceMul, Nat.reduceSub, Nat.reduceLeDiff, Nat.reduceEqDiff, Nat.reduceLT, Nat.reduceBEq, ↓reduceIte, Int.reduceLE, Int.reduceLT, Int.reduceToNat, Int.reduceNeg, reduceCtorEq, Int.reduceEq, SF0, SF1, SF2, DCqa0, DCqa1, DCqa2, DCe0, DCe1, DCe2, DDb0, DBc0, DBc1, DLa0, DCg0, DCqk0, DCpd0, DCrk0, strB_get, hb]
      refine br_dec (fun h6 => ?_) (fun h6 => ?_)
      · simp (disch := omega) only [SX0, SX1, SX2, SX3, SX4, SX5, SX6, SX7, SX8, SU0, SY0, SY1, Nat.reduceAdd, Nat.reduceMul, Nat.reduceSub, Nat.reduceLeDiff, Nat.reduceEqDiff, Nat.reduceLT, Nat.reduceBEq, ↓reduceIte, Int.reduceLE, Int.reduceLT, Int.reduceToNat, Int.reduceNeg, reduceCtorEq, Int.reduceEq, SF0, SF1, SF2, DCqa0, DCqa1, DCqa2, DCe0, DCe1, DCe2, DDb0, DBc0, DBc1, DLa0, DCg0, DCqk0, DCpd0, DCrk0]
        exact bad fun hh => by have := hh.2.2.2 b hbm; unfold dig at this; omega
      simp (disch := omega) only [SX0, SX1, SX2, SX3, SX4, SX5, SX6, SX7, SX8, SU0, SY0, SY1, Nat.reduceAdd, Nat.reduceMul, Nat.reduceSub, Nat.reduceLeDiff, Nat.reduceEqDiff, Nat.reduceLT, Nat.reduceBEq, ↓reduceIte, Int.reduceLE, Int.reduceLT, Int.reduceToNat, Int.reduceNeg, reduceCtorEq, Int.reduceEq, SF0, SF1, SF2, DCqa0, DCqa1, DCqa2, DCe0, DCe1, DCe2, DDb0, DBc0, DBc1, DLa0, DCg0, DCqk0, DCpd0, DCrk0, strB_get, hb]
      refine br_dec (fun h7 => ?_) (fun h7 => ?_)
      · simp (disch := omega) only [SX0, SX1, SX2, SX3, SX4, SX5, SX6, SX7, SX8, SU0, SY0, SY1, Nat.reduceAdd, Nat.reduceMul, Nat.reduceSub, Nat.reduceLeDiff, Nat.reduceEqDiff, Nat.reduceLT, Nat.reduceBEq, ↓reduceIte, Int.reduceLE, Int.reduceLT, Int.reduceToNat, Int.reduceNeg, reduceCtorEq, Int.reduceEq, SF0, SF1, SF2, DCqa0, DCqa1, DCqa2, DCe0, DCe1, DCe2, DDb0, DBc0, DBc1, DLa0, DCg0, DCqk0, DCpd0, DCrk0]
        exact bad fun hh => by have := hh.2.2.2 b hbm; unfold dig at this; omega
      have hd : dig b := by unfold dig; omega
      have hvt : valT (s.take i) ≤ 999999 := by
        have h1 := valT_lt (l := s.take i) hi2
        have h2 : 10 ^ (s.take i).length ≤ 10 ^ 6 := Nat.pow_le_pow_right (by omega) (by rw [List.length_take]; omega)
        omega
      have e8 := wrap8 hd
      have e64 := wrap8' (n := b.toNat - 48) (by omega)
      have ev := wrapV (v := valT (s.take i)) (n := b.toNat - 48) (by omega) (by omega)
      rw [← hv] at ev
      simp (disch := omega) only [SX0, SX1, SX2, SX3, SX4, SX5, SX6, SX7, SX8, SU0, SY0, SY1, Nat.reduceAdd, Nat.reduceMul, Nat.reduceSub, Nat.reduceLeDiff, Nat.reduceEqDiff, Nat.reduceLT, Nat.reduceBEq, ↓reduceIte, Int.reduceLE, Int.reduceLT, Int.reduceToNat, Int.reduceNeg, reduceCtorEq, Int.reduceEq, SF0, SF1, SF2, DCqa0, DCqa1, DCqa2, DCe0, DCe1, DCe2, DDb0, DBc0, DBc1, DLa0, DCg0, DCqk0, DCpd0, DCrk0, strB_get, hb, e8, e64, ev]
      refine ⟨i + 1, ⟨by omega, take_next hb hi2 hd⟩, by omega, ?_⟩
      (refine wk_le ?_ ?_ ?_; (focus (simp [W8, leTm, leAV, AV.under, underL]; done)); (focus (simp [leL, OB.under, underL, AV.under]; done)); (focus (simp; done)))
    · rw [List.take_of_length_le (by omega)] at hi2
      rw [List.take_of_length_le (by omega)]
      simp (disch := omega) only [SX0, SX1, SX2, SX3, SX4, SX5, SX6, SX7, SX8, SU0, SY0, SY1, Nat.reduceAdd, Nat.reduceMul, Nat.reduceSub, Nat.reduceLeDiff, Nat.reduceEqDiff, Nat.reduceLT, Nat.reduceBEq, ↓reduceIte, Int.reduceLE, Int.reduceLT, Int.reduceToNat, Int.reduceNeg, reduceCtorEq, Int.reduceEq, SF0, SF1, SF2, DCqa0, DCqa1, DCqa2, DCe0, DCe1, DCe2, DDb0, DBc0, DBc1, DLa0, DCg0, DCqk0, DCpd0, DCrk0]
      have hok : rnOk s := ⟨h1, by omega, hz, hi2⟩
      exact fin_free rfl ⟨by unfold rni; rw [if_pos hok, decide_eq_true hok], rfl⟩
  · have hz : ¬ (s.head? = some 48 ∧ 1 < s.length) := fun hc => by
      have := hc.1
      rw [hh0] at this
      cases this
      exact h3 rfl
    simp (disch := omega) only [SX0, SX1, SX2, SX3, SX4, SX5, SX6, SX7, SX8, SU0, SY0, SY1, Nat.reduceAdd, Nat.reduceMul, Nat.reduceSub, Nat.reduceLeDiff, Nat.reduceEqDiff, Nat.reduceLT, Nat.reduceBEq, ↓reduceIte, Int.reduceLE, Int.reduceLT, Int.reduceToNat, Int.reduceNeg, reduceCtorEq, Int.reduceEq, SF0, SF1, SF2, DCqa0, DCqa1, DCqa2, DCe0, DCe1, DCe2, DDb0, DBc0, DBc1, DLa0, DCg0, DCqk0, DCpd0, DCrk0, strB_size]
    with_reducible refine awp_loop_h (G := Nat) 4 44 (fun i => [(4, .val (.int .i64 (valT (s.take i)))), (24, .val (.int .i64 s.length)), (25, .val (.int .i64 i))]) (fun _ => []) (fun i => i ≤ s.length ∧ ∀ b ∈ s.take i, dig b) (fun i => s.length - i) 0 ⟨Nat.zero_le _, by simp⟩ ?_ (fun i hi => sx_sound (bl := []) T_tt _ _ _ ?_)
    · simp (disch := omega) only [SX0, SX1, SX2, SX3, SX4, SX5, SX6, SX7, SX8, SU0, SY0, SY1, Nat.reduceAdd, Nat.reduceMul, Nat.reduceSub, Nat.reduceLeDiff, Nat.reduceEqDiff, Nat.reduceLT, Nat.reduceBEq, ↓reduceIte, Int.reduceLE, Int.reduceLT, Int.reduceToNat, Int.reduceNeg, reduceCtorEq, Int.reduceEq, SF0, SF1, SF2, DCqa0, DCqa1, DCqa2, DCe0, DCe1, DCe2, DDb0, DBc0, DBc1, DLa0, DCg0, DCqk0, DCpd0, DCrk0]
      (refine wk_le ?_ ?_ ?_; (focus (simp [W8, leTm, leAV, AV.under, underL, valT]; done)); (focus (simp [leL, OB.under, underL, AV.under, valT]; done)); (focus (simp; done)))
    simp (disch := omega) only [SX0, SX1, SX2, SX3, SX4, SX5, SX6, SX7, SX8, SU0, SY0, SY1, Nat.reduceAdd, Nat.reduceMul, Nat.reduceSub, Nat.reduceLeDiff, Nat.reduceEqDiff, Nat.reduceLT, Nat.reduceBEq, ↓reduceIte, Int.reduceLE, Int.reduceLT, Int.reduceToNat, Int.reduceNeg, reduceCtorEq, Int.reduceEq, SF0, SF1, SF2, DCqa0, DCqa1, DCqa2, DCe0, DCe1, DCe2, DDb0, DBc0, DBc1, DLa0, DCg0, DCqk0, DCpd0, DCrk0, strB_size]
    obtain ⟨hi1, hi2⟩ := hi
    refine br_dec (fun h5 => ?_) (fun h5 => ?_)
    · obtain ⟨b, hb⟩ := get_lt (l := s) (i := i) (by omega)
      have hv := valT_take hb
      have hbm := List.mem_of_getElem? hb
      have hb8 := b.toNat_lt
      simp (disch := omega) only [SX0, SX1, SX2, SX3, SX4, SX5, SX6, SX7, SX8, SU0, SY0, SY1, Nat.reduceAdd, Nat.reduceMul, Nat.reduceSub, Nat.reduceLeDiff, Nat.reduceEqDiff, Nat.reduceLT, Nat.reduceBEq, ↓reduceIte, Int.reduceLE, Int.reduceLT, Int.reduceToNat, Int.reduceNeg, reduceCtorEq, Int.reduceEq, SF0, SF1, SF2, DCqa0, DCqa1, DCqa2, DCe0, DCe1, DCe2, DDb0, DBc0, DBc1, DLa0, DCg0, DCqk0, DCpd0, DCrk0, strB_get, hb]
      refine br_dec (fun h6 => ?_) (fun h6 => ?_)
      · simp (disch := omega) only [SX0, SX1, SX2, SX3, SX4, SX5, SX6, SX7, SX8, SU0, SY0, SY1, Nat.reduceAdd, Nat.reduceMul, Nat.reduceSub, Nat.reduceLeDiff, Nat.reduceEqDiff, Nat.reduceLT, Nat.reduceBEq, ↓reduceIte, Int.reduceLE, Int.reduceLT, Int.reduceToNat, Int.reduceNeg, reduceCtorEq, Int.reduceEq, SF0, SF1, SF2, DCqa0, DCqa1, DCqa2, DCe0, DCe1, DCe2, DDb0, DBc0, DBc1, DLa0, DCg0, DCqk0, DCpd0, DCrk0]
        exact bad fun hh => by have := hh.2.2.2 b hbm; unfold dig at this; omega
      simp (disch := omega) only [SX0, SX1, SX2, SX3, SX4, SX5, SX6, SX7, SX8, SU0, SY0, SY1, Nat.reduceAdd, Nat.reduceMul, Nat.reduceSub, Nat.reduceLeDiff, Nat.reduceEqDiff, Nat.reduceLT, Nat.reduceBEq, ↓reduceIte, Int.reduceLE, Int.reduceLT, Int.reduceToNat, Int.reduceNeg, reduceCtorEq, Int.reduceEq, SF0, SF1, SF2, DCqa0, DCqa1, DCqa2, DCe0, DCe1, DCe2, DDb0, DBc0, DBc1, DLa0, DCg0, DCqk0, DCpd0, DCrk0, strB_get, hb]
      refine br_dec (fun h7 => ?_) (fun h7 => ?_)
      · simp (disch := omega) only [SX0, SX1, SX2, SX3, SX4, SX5, SX6, SX7, SX8, SU0, SY0, SY1, Nat.reduceAdd, Nat.reduceMul, Nat.reduceSub, Nat.reduceLeDiff, Nat.reduceEqDiff, Nat.reduceLT, Nat.reduceBEq, ↓reduceIte, Int.reduceLE, Int.reduceLT, Int.reduceToNat, Int.reduceNeg, reduceCtorEq, Int.reduceEq, SF0, SF1, SF2, DCqa0, DCqa1, DCqa2, DCe0, DCe1, DCe2, DDb0, DBc0, DBc1, DLa0, DCg0, DCqk0, DCpd0, DCrk0]
        exact bad fun hh => by have := hh.2.2.2 b hbm; unfold dig at this; omega
      have hd : dig b := by unfold dig; omega
      have hvt : valT (s.take i) ≤ 999999 := by
        have h1 := valT_lt (l := s.take i) hi2
        have h2 : 10 ^ (s.take i).length ≤ 10 ^ 6 := Nat.pow_le_pow_right (by omega) (by rw [List.length_take]; omega)
        omega
      have e8 := wrap8 hd
      have e64 := wrap8' (n := b.toNat - 48) (by omega)
      have ev := wrapV (v := valT (s.take i)) (n := b.toNat - 48) (by omega) (by omega)
      rw [← hv] at ev
      simp (disch := omega) only [SX0, SX1, SX2, SX3, SX4, SX5, SX6, SX7, SX8, SU0, SY0, SY1, Nat.reduceAdd, Nat.reduceMul, Nat.reduceSub, Nat.reduceLeDiff, Nat.reduceEqDiff, Nat.reduceLT, Nat.reduceBEq, ↓reduceIte, Int.reduceLE, Int.reduceLT, Int.reduceToNat, Int.reduceNeg, reduceCtorEq, Int.reduceEq, SF0, SF1, SF2, DCqa0, DCqa1, DCqa2, DCe0, DCe1, DCe2, DDb0, DBc0, DBc1, DLa0, DCg0, DCqk0, DCpd0, DCrk0, strB_get, hb, e8, e64, ev]
      refine ⟨i + 1, ⟨by omega, take_next hb hi2 hd⟩, by omega, ?_⟩
      (refine wk_le ?_ ?_ ?_; (focus (simp [W8, leTm, leAV, AV.under, underL]; done)); (focus (simp [leL, OB.under, underL, AV.under]; done)); (focus (simp; done)))
    · rw [List.take_of_length_le (by omega)] at hi2
      rw [List.take_of_length_le (by omega)]
      simp (disch := omega) only [SX0, SX1, SX2, SX3, SX4, SX5, SX6, SX7, SX8, SU0, SY0, SY1, Nat.reduceAdd, Nat.reduceMul, Nat.reduceSub, Nat.reduceLeDiff, Nat.reduceEqDiff, Nat.reduceLT, Nat.reduceBEq, ↓reduceIte, Int.reduceLE, Int.reduceLT, Int.reduceToNat, Int.reduceNeg, reduceCtorEq, Int.reduceEq, SF0, SF1, SF2, DCqa0, DCqa1, DCqa2, DCe0, DCe1, DCe2, DDb0, DBc0, DBc1, DLa0, DCg0, DCqk0, DCpd0, DCrk0]
      have hok : rnOk s := ⟨h1, by omega, hz, hi2⟩
      exact fin_free rfl ⟨by unfold rni; rw [if_pos hok, decide_eq_true hok], rfl⟩
def numsR (l : List Int) : List (List AV) := l.map fun x => [.val (.int .i64 x)]
theorem ints_len (l : List Int) : (numsR l).length = l.length := by simp [numsR]
def vals (ws : List (List UInt8)) : List Int := ws.map fun w => (valT w : Int)
theorem vals_next {ws : List (List UInt8)} {i : Nat} {w : List UInt8} (h : ws[i]? = some w) : vals (ws.take (i + 1)) = vals (ws.take i) ++ [(valT w : Int)] := by
  unfold vals; rw [List.take_add_one, h]; simp
theorem vals_len (ws : List (List UInt8)) : (vals ws).length = ws.length := by simp [vals]

theorem e_readNumbersI : Enters Tryd.prog 58 := enters_of Tryd.func58 (by kernel_rfl) (by kernel_rfl)
set_option maxHeartbeats 2000000 in
theorem readNumbersI_c (ws : List (List UInt8)) (hn : ws.length ≤ 1000) (hl : ∀ w ∈ ws, w.length ≤ 1048576) : ACalls Tryd.prog 58 [.sl (strs ws)] [] [] (fun r L => r = (if ∀ w ∈ ws, rnOk w then .tup [.sl (numsR (vals ws)), .val (.bool true)] else .tup [.val (.slice none 0 0), .val (.bool false)]) ∧ L = []) := by
  have sl : (strs ws).length = ws.length := by simp [strs]
  have sg : ∀ (i : Nat) w, ws[i]? = some w → (strs ws)[i]? = some [AV.val (.string (strB w))] := fun i w h => by simp [strs, h]
  refine acalls_tm T_tt Tryd.func58 rfl e_readNumbersI 27 rfl (W8 _ .any .any .any .any .any .any .any (W8 .any .any .any .any .any .any .any .any (W8 .any .any .any .any .any .any .any .any [.any, .any, .any, .any]))) rfl (rv := [.tmp 2, .tmp 3]) rfl (sx_sound (bl := []) T_tt _ _ _ ?_)
  simp (disch := omega) only [SX0, SX1, SX2, SX3, SX4, SX5, SX6, SX7, SX8, SU0, SY0, SY1, Nat.reduceAdd, Nat.reduceMul, Nat.reduceSub, Nat.reduceLeDiff, Nat.reduceEqDiff, Nat.reduceLT, Nat.reduceBEq, ↓reduceIte, Int.reduceLE, Int.reduceLT, Int.reduceToNat, Int.reduceNeg, reduceCtorEq, Int.reduceEq, SF0, SF1, SF2, DCqa0, DCqa1, DCqa2, DCe0, DCe1, DCe2, DDb0, DBc0, DBc1, DLa0, DCg0, DCqk0, DCpd0, DCrk0, sl]
  refine awp_wk (wk_nil 4 1 (by decide) rfl) ?_
  simp (disch := omega) only [SX0, SX1, SX2, SX3, SX4, SX5, SX6, SX7, SX8, SU0, SY0, SY1, Nat.reduceAdd, Nat.reduceMul, Nat.reduceSub, Nat.reduceLeDiff, Nat.reduceEqDiff, Nat.reduceLT, Nat.reduceBEq, ↓reduceIte, Int.reduceLE, Int.reduceLT, Int.reduceToNat, Int.reduceNeg, reduceCtorEq, Int.reduceEq, SF0, SF1, SF2, DCqa0, DCqa1, DCqa2, DCe0, DCe1, DCe2, DDb0, DBc0, DBc1, DLa0, DCg0, DCqk0, DCpd0, DCrk0]
  with_reducible refine awp_loop_h (G := Nat) 4 24 (fun i => [(4, .os 0 1 0 i), (9, .sl (strs ws)), (10, .val (.int .i64 ws.length)), (11, .val (.int .i64 i))]) (fun i => [.vec 1 (numsR (vals (ws.take i)))]) (fun i => i ≤ ws.length ∧ ∀ w ∈ ws.take i, rnOk w) (fun i => ws.length - i) 0 ⟨Nat.zero_le _, by simp⟩ ?_ (fun i hi => sx_sound (bl := []) T_tt _ _ _ ?_)
  · simp (disch := omega) only [SX0, SX1, SX2, SX3, SX4, SX5, SX6, SX7, SX8, SU0, SY0, SY1, Nat.reduceAdd, Nat.reduceMul, Nat.reduceSub, Nat.reduceLeDiff, Nat.reduceEqDiff, Nat.reduceLT, Nat.reduceBEq, ↓reduceIte, Int.reduceLE, Int.reduceLT, Int.reduceToNat, Int.reduceNeg, reduceCtorEq, Int.reduceEq, SF0, SF1, SF2, DCqa0, DCqa1, DCqa2, DCe0, DCe1, DCe2, DDb0, DBc0, DBc1, DLa0, DCg0, DCqk0, DCpd0, DCrk0]
    (refine wk_le ?_ ?_ ?_; (focus (simp [W8, leTm, leAV, AV.under, underL, strs, vals, numsR]; done)); (focus (simp [leL, OB.under, underL, AV.under, strs, vals, numsR]; done)); (focus (simp; done)))
  simp (disch := omega) only [SX0, SX1, SX2, SX3, SX4, SX5, SX6, SX7, SX8, SU0, SY0, SY1, Nat.reduceAdd, Nat.reduceMul, Nat.reduceSub, Nat.reduceLeDiff, Nat.reduceEqDiff, Nat.reduceLT, Nat.reduceBEq, ↓reduceIte, Int.reduceLE, Int.reduceLT, Int.reduceToNat, Int.reduceNeg, reduceCtorEq, Int.reduceEq, SF0, SF1, SF2, DCqa0, DCqa1, DCqa2, DCe0, DCe1, DCe2, DDb0, DBc0, DBc1, DLa0, DCg0, DCqk0, DCpd0, DCrk0, sl]
  obtain ⟨hi1, hi2⟩ := hi
  refine br_dec (fun h1 => ?_) (fun h1 => ?_)
  · obtain ⟨w, hw⟩ := get_lt (l := ws) (i := i) (by omega)
    have hwm := List.mem_of_getElem? hw
    simp (disch := omega) only [SX0, SX1, SX2, SX3, SX4, SX5, SX6, SX7, SX8, SU0, SY0, SY1, Nat.reduceAdd, Nat.reduceMul, Nat.reduceSub, Nat.reduceLeDiff, Nat.reduceEqDiff, Nat.reduceLT, Nat.reduceBEq, ↓reduceIte, Int.reduceLE, Int.reduceLT, Int.reduceToNat, Int.reduceNeg, reduceCtorEq, Int.reduceEq, SF0, SF1, SF2, DCqa0, DCqa1, DCqa2, DCe0, DCe1, DCe2, DDb0, DBc0, DBc1, DLa0, DCg0, DCqk0, DCpd0, DCrk0, sl, sg i w hw]
    refine acall_one (readNumberI_c w (hl w hwm)) rfl rfl ?_
    simp (disch := omega) only [SX0, SX1, SX2, SX3, SX4, SX5, SX6, SX7, SX8, SU0, SY0, SY1, Nat.reduceAdd, Nat.reduceMul, Nat.reduceSub, Nat.reduceLeDiff, Nat.reduceEqDiff, Nat.reduceLT, Nat.reduceBEq, ↓reduceIte, Int.reduceLE, Int.reduceLT, Int.reduceToNat, Int.reduceNeg, reduceCtorEq, Int.reduceEq, SF0, SF1, SF2, DCqa0, DCqa1, DCqa2, DCe0, DCe1, DCe2, DDb0, DBc0, DBc1, DLa0, DCg0, DCqk0, DCpd0, DCrk0]
    refine br_ndec (fun h2 => ?_) (fun h2 => ?_)
    · simp (disch := omega) only [SX0, SX1, SX2, SX3, SX4, SX5, SX6, SX7, SX8, SU0, SY0, SY1, Nat.reduceAdd, Nat.reduceMul, Nat.reduceSub, Nat.reduceLeDiff, Nat.reduceEqDiff, Nat.reduceLT, Nat.reduceBEq, ↓reduceIte, Int.reduceLE, Int.reduceLT, Int.reduceToNat, Int.reduceNeg, reduceCtorEq, Int.reduceEq, SF0, SF1, SF2, DCqa0, DCqa1, DCqa2, DCe0, DCe1, DCe2, DDb0, DBc0, DBc1, DLa0, DCg0, DCqk0, DCpd0, DCrk0]
      exact fin_free rfl ⟨by rw [if_neg (fun hh => h2 (hh w hwm))], rfl⟩
    · have e1 : rni w = (valT w : Nat) := by unfold rni; rw [if_pos h2]
      rw [e1]
      simp (disch := omega) only [SX0, SX1, SX2, SX3, SX4, SX5, SX6, SX7, SX8, SU0, SY0, SY1, Nat.reduceAdd, Nat.reduceMul, Nat.reduceSub, Nat.reduceLeDiff, Nat.reduceEqDiff, Nat.reduceLT, Nat.reduceBEq, ↓reduceIte, Int.reduceLE, Int.reduceLT, Int.reduceToNat, Int.reduceNeg, reduceCtorEq, Int.reduceEq, SF0, SF1, SF2, DCqa0, DCqa1, DCqa2, DCe0, DCe1, DCe2, DDb0, DBc0, DBc1, DLa0, DCg0, DCqk0, DCpd0, DCrk0]
      refine req (by simp [ints_len, vals_len]; omega) ?_
      simp (disch := omega) only [SX0, SX1, SX2, SX3, SX4, SX5, SX6, SX7, SX8, SU0, SY0, SY1, Nat.reduceAdd, Nat.reduceMul, Nat.reduceSub, Nat.reduceLeDiff, Nat.reduceEqDiff, Nat.reduceLT, Nat.reduceBEq, ↓reduceIte, Int.reduceLE, Int.reduceLT, Int.reduceToNat, Int.reduceNeg, reduceCtorEq, Int.reduceEq, SF0, SF1, SF2, DCqa0, DCqa1, DCqa2, DCe0, DCe1, DCe2, DDb0, DBc0, DBc1, DLa0, DCg0, DCqk0, DCpd0, DCrk0]
      refine ⟨i + 1, ⟨by omega, take_next hw hi2 h2⟩, by omega, ?_⟩
      rw [vals_next hw]
      simp only [numsR, List.map_append, List.map_cons, List.map_nil]
      (refine wk_le ?_ ?_ ?_; (focus (simp [W8, leTm, leAV, AV.under, underL, strs]; done)); (focus (simp [leL, OB.under, underL, AV.under, strs]; done)); (focus (simp; done)))
  · rw [List.take_of_length_le (by omega)] at hi2
    rw [List.take_of_length_le (by omega)]
    rw [if_pos hi2]
    simp (disch := omega) only [SX0, SX1, SX2, SX3, SX4, SX5, SX6, SX7, SX8, SU0, SY0, SY1, Nat.reduceAdd, Nat.reduceMul, Nat.reduceSub, Nat.reduceLeDiff, Nat.reduceEqDiff, Nat.reduceLT, Nat.reduceBEq, ↓reduceIte, Int.reduceLE, Int.reduceLT, Int.reduceToNat, Int.reduceNeg, reduceCtorEq, Int.reduceEq, SF0, SF1, SF2, DCqa0, DCqa1, DCqa2, DCe0, DCe1, DCe2, DDb0, DBc0, DBc1, DLa0, DCg0, DCqk0, DCpd0, DCrk0]
    refine fin_frz (r := 0) (k := 1) rfl (by simp [numsR]) ?_
    simp only [AV.frz, frzL, if_true, Nat.zero_add, true_and, ints_len, vals_len, Nat.le_refl, List.drop_zero]
    rw [if_pos hi1, List.take_of_length_le (by simp [ints_len, vals_len]; omega)]
    exact fin_free rfl ⟨rfl, rfl⟩
/-! ### Lines -/

/-- A line of words as the reference reads it. -/
def rlS : List (List UInt8) → Option Ln
  | [a, b, c, d, e] => if d = wordT true ∨ d = wordT false then some ⟨⟨rn b, rn c, decide (d = wordT true), rn e⟩, rn a⟩ else none
  | _ => none
/-- .. and as the program does. -/
def rlI : List (List UInt8) → Option Ln
  | [a, b, c, d, e] => if (d = wordT true ∨ d = wordT false) ∧ rnOk a ∧ rnOk b ∧ rnOk c ∧ rnOk e then some ⟨⟨valT b, valT c, decide (d = wordT true), valT e⟩, valT a⟩ else none
  | _ => none
theorem rl_some {ws : List (List UInt8)} {x : Ln} (h : rlI ws = some x) : rlS ws = some x := by
  unfold rlI at h
  split at h
  · split at h
    · rename_i a b c d e hc
      obtain ⟨h1, h2, h3, h4, h5⟩ := hc
      cases h
      unfold rlS rn
      simp only [if_pos h1, if_pos h2, if_pos h3, if_pos h4, if_pos h5]
    · cases h
  · cases h
theorem rl_none {ws : List (List UInt8)} {x : Ln} (h : rlI ws = none) (hx : rlS ws = some x) : ¬ (x.P.ok ∧ 1 ≤ x.N) := by
  unfold rlS at hx
  split at hx
  · split at hx
    · rename_i a b c d e hd
      cases hx
      unfold rlI at h
      simp only at h
      split at h
      · cases h
      · rename_i hn
        intro ⟨⟨h1, h2, h3⟩, h4⟩
        refine hn ⟨hd, ?_, ?_, ?_, ?_⟩
        · exact Classical.byContradiction fun hb => by simp only [rn, if_neg hb] at h4; omega
        · exact Classical.byContradiction fun hb => by simp only [rn, if_neg hb] at h1; omega
        · exact Classical.byContradiction fun hb => by simp only [rn, if_neg hb] at h2; omega
        · exact Classical.byContradiction fun hb => by simp only [rn, if_neg hb] at h3; omega
    · cases hx
  · cases hx
theorem rl_five {ws : List (List UInt8)} (h : ws.length = 5) : ∃ a b c d e, ws = [a, b, c, d, e] := by
  match ws, h with
  | [a, b, c, d, e], _ => exact ⟨a, b, c, d, e, rfl⟩
theorem rlS_len {ws : List (List UInt8)} (h : ws.length ≠ 5) : rlS ws = none := by
  unfold rlS
  split
  · simp at h
  · rfl
theorem rlI_len {ws : List (List UInt8)} (h : ws.length ≠ 5) : rlI ws = none := by
  unfold rlI
  split
  · simp at h
  · rfl

/-- A line that is read, and whether there is one. -/
def lnR (o : Option Ln) : AV := match o with
  | some x => .tup [.agg x.cs, .val (.bool true)]
  | none => .tup [.agg zLn, .val (.bool false)]
theorem lnR_some (x : Ln) : lnR (some x) = .tup [.agg x.cs, .val (.bool true)] := rfl
theorem lnR_none : lnR none = .tup [.agg zLn, .val (.bool false)] := rfl

theorem e_readLineS : Enters Tryd.prog 39 := enters_of Tryd.func39 (by kernel_rfl) (by kernel_rfl)
set_option maxRecDepth 8000 in
set_option maxHeartbeats 4000000 in
theorem readLineS_c (ws : List (List UInt8)) (hn : ws.length ≤ 9223372036854775807) (hl : ∀ w ∈ ws, w.length ≤ 1048576) : ACalls Tryd.prog 39 [.sl (strs ws)] [] [] (fun r L => r = lnR (rlS ws) ∧ L = []) := by
  have sl : (strs ws).length = ws.length := by simp [strs]
  have ct : (⟨#[116, 117, 114, 110, 115]⟩ : ByteArray) = strB (wordT true) := rfl
  have cf : (⟨#[102, 105, 120, 101, 100]⟩ : ByteArray) = strB (wordT false) := rfl
  by_cases h5 : ws.length = 5
  · obtain ⟨a, b, c, d, e, rfl⟩ := rl_five h5
    have ra := readNumberS_c a (hl a (by simp))
    have rb := readNumberS_c b (hl b (by simp))
    have rc := readNumberS_c c (hl c (by simp))
    have re := readNumberS_c e (hl e (by simp))
    have sx : strs [a, b, c, d, e] = [[.val (.string (strB a))], [.val (.string (strB b))], [.val (.string (strB c))], [.val (.string (strB d))], [.val (.string (strB e))]] := rfl
    rw [sx]
    refine acalls_tm T_tt Tryd.func39 rfl e_readLineS 41 rfl (W8 _ .any .any .any .any .any .any .any (W8 .any .any .any .any .any .any .any .any (W8 .any .any .any .any .any .any .any .any (W8 .any .any .any .any .any .any .any .any (W8 .any .any .any .any .any .any .any .any [.any, .any]))))) rfl (rv := [.cell 2 59, .tmp 3]) rfl (sx_sound (bl := []) T_tt _ _ _ ?_)
    simp (disch := omega) only [SX0, SX1, SX2, SX3, SX4, SX5, SX6, SX7, SX8, SU0, SY0, SY1, Nat.reduceAdd, Nat.reduceMul, Nat.reduceSub, Nat.reduceLeDiff, Nat.reduceEqDiff, Nat.reduceLT, Nat.reduceBEq, ↓reduceIte, Int.reduceLE, Int.reduceLT, Int.reduceToNat, Int.reduceNeg, reduceCtorEq, Int.reduceEq, SF0, SF1, SF2, DCqa0, DCqa1, DCqa2, DCe0, DCe1, DCe2, DDb0, DBc0, DBc1, DLa0, DCg0, DCqk0, DCpd0, DCrk0, List.length_cons, List.length_nil, ct, cf, strB_inj, List.getElem?_cons_zero, List.getElem?_cons_succ]
    refine br_ndec (fun h => absurd rfl h) (fun _ => ?_)
    simp (disch := omega) only [SX0, SX1, SX2, SX3, SX4, SX5, SX6, SX7, SX8, SU0, SY0, SY1, Nat.reduceAdd, Nat.reduceMul, Nat.reduceSub, Nat.reduceLeDiff, Nat.reduceEqDiff, Nat.reduceLT, Nat.reduceBEq, ↓reduceIte, Int.reduceLE, Int.reduceLT, Int.reduceToNat, Int.reduceNeg, reduceCtorEq, Int.reduceEq, SF0, SF1, SF2, DCqa0, DCqa1, DCqa2, DCe0, DCe1, DCe2, DDb0, DBc0, DBc1, DLa0, DCg0, DCqk0, DCpd0, DCrk0, List.length_cons, List.length_nil, ct, cf, strB_inj, List.getElem?_cons_zero, List.getElem?_cons_succ]
    have bad : ¬ (d = wordT true ∨ d = wordT false) → ∀ {s' : AS}, Fin [] 0 (fun r L => r = lnR (rlS [a, b, c, d, e]) ∧ L = []) s' (.tup [.agg [.val (.int .i64 0), .val (.int .i64 0), .val (.bool false), .val (.int .i64 0), .val (.int .i64 0)], .val (.bool false)]) := fun h s' => fin_free rfl ⟨by simp only [rlS, if_neg h]; rfl, rfl⟩
    have good : (d = wordT true ∨ d = wordT false) → lnR (rlS [a, b, c, d, e]) = .tup [.agg [.val (.int .i64 (rn b)), .val (.int .i64 (rn c)), .val (.bool (decide (d = wordT true))), .val (.int .i64 (rn e)), .val (.int .i64 (rn a))], .val (.bool true)] := fun h => by simp only [rlS, if_pos h]; rfl
    refine br_ndec (fun h1 => ?_) (fun h1 => ?_)
    · simp (disch := omega) only [SX0, SX1, SX2, SX3, SX4, SX5, SX6, SX7, SX8, SU0, SY0, SY1, Nat.reduceAdd, Nat.reduceMul, Nat.reduceSub, Nat.reduceLeDiff, Nat.reduceEqDiff, Nat.reduceLT, Nat.reduceBEq, ↓reduceIte, Int.reduceLE, Int.reduceLT, Int.reduceToNat, Int.reduceNeg, reduceCtorEq, Int.reduceEq, SF0, SF1, SF2, DCqa0, DCqa1, DCqa2, DCe0, DCe1, DCe2, DDb0, DBc0, DBc1, DLa0, DCg0, DCqk0, DCpd0, DCrk0, List.length_cons, List.length_nil, ct, cf, strB_inj, List.getElem?_cons_zero, List.getElem?_cons_succ]
      refine br_ndec (fun h2 => ?_) (fun h2 => ?_)
      · simp (disch := omega) only [SX0, SX1, SX2, SX3, SX4, SX5, SX6, SX7, SX8, SU0, SY0, SY1, Nat.reduceAdd, Nat.reduceMul, Nat.reduceSub, Nat.reduceLeDiff, Nat.reduceEqDiff, Nat.reduceLT, Nat.reduceBEq, ↓reduceIte, Int.reduceLE, Int.reduceLT, Int.reduceToNat, Int.reduceNeg, reduceCtorEq, Int.reduceEq, SF0, SF1, SF2, DCqa0, DCqa1, DCqa2, DCe0, DCe1, DCe2, DDb0, DBc0, DBc1, DLa0, DCg0, DCqk0, DCpd0, DCrk0]
        exact bad fun h => h.elim h1 h2
      · have hg := good (.inr h2)
        rw [hg]
        simp (disch := omega) only [SX0, SX1, SX2, SX3, SX4, SX5, SX6, SX7, SX8, SU0, SY0, SY1, Nat.reduceAdd, Nat.reduceMul, Nat.reduceSub, Nat.reduceLeDiff, Nat.reduceEqDiff, Nat.reduceLT, Nat.reduceBEq, ↓reduceIte, Int.reduceLE, Int.reduceLT, Int.reduceToNat, Int.reduceNeg, reduceCtorEq, Int.reduceEq, SF0, SF1, SF2, DCqa0, DCqa1, DCqa2, DCe0, DCe1, DCe2, DDb0, DBc0, DBc1, DLa0, DCg0, DCqk0, DCpd0, DCrk0, List.length_cons, List.length_nil, ct, cf, strB_inj, List.getElem?_cons_zero, List.getElem?_cons_succ]
        refine awp_draw (bl := []) T_tt mixed 22 (by decide) (by kernel_rfl) (.inr ⟨by kernel_rfl, by kernel_rfl⟩) (by kernel_rfl) ?_
        repeat' first | simp (disch := omega) only [SX0, SX1, SX2, SX3, SX4, SX5, SX6, SX7, SX8, SU0, SY0, SY1, Nat.reduceAdd, Nat.reduceMul, Nat.reduceSub, Nat.reduceLeDiff, Nat.reduceEqDiff, Nat.reduceLT, Nat.reduceBEq, ↓reduceIte, Int.reduceLE, Int.reduceLT, Int.reduceToNat, Int.reduceNeg, reduceCtorEq, Int.reduceEq, SF0, SF1, SF2, DCqa0, DCqa1, DCqa2, DCe0, DCe1, DCe2, DDb0, DBc0, DBc1, DLa0, DCg0, DCqk0, DCpd0, DCrk0, List.length_cons, List.length_nil, ct, cf, strB_inj, List.getElem?_cons_zero, List.getElem?_cons_succ] | refine qc_one ra rfl ?_ | refine qc_one rb rfl ?_ | refine qc_one rc rfl ?_ | refine qc_one re rfl ?_ | fail
        exact fin_free rfl ⟨rfl, rfl⟩
    · have hg := good (.inl h1)
      rw [hg]
      simp (disch := omega) only [SX0, SX1, SX2, SX3, SX4, SX5, SX6, SX7, SX8, SU0, SY0, SY1, Nat.reduceAdd, Nat.reduceMul, Nat.reduceSub, Nat.reduceLeDiff, Nat.reduceEqDiff, Nat.reduceLT, Nat.reduceBEq, ↓reduceIte, Int.reduceLE, Int.reduceLT, Int.reduceToNat, Int.reduceNeg, reduceCtorEq, Int.reduceEq, SF0, SF1, SF2, DCqa0, DCqa1, DCqa2, DCe0, DCe1, DCe2, DDb0, DBc0, DBc1, DLa0, DCg0, DCqk0, DCpd0, DCrk0, List.length_cons, List.length_nil, ct, cf, strB_inj, List.getElem?_cons_zero, List.getElem?_cons_succ]
      refine awp_draw (bl := []) T_tt mixed 22 (by decide) (by kernel_rfl) (.inr ⟨by kernel_rfl, by kernel_rfl⟩) (by kernel_rfl) ?_
      repeat' first | simp (disch := omega) only [SX0, SX1, SX2, SX3, SX4, SX5, SX6, SX7, SX8, SU0, SY0, SY1, Nat.reduceAdd, Nat.reduceMul, Nat.reduceSub, Nat.reduceLeDiff, Nat.reduceEqDiff, Nat.reduceLT, Nat.reduceBEq, ↓reduceIte, Int.reduceLE, Int.reduceLT, Int.reduceToNat, Int.reduceNeg, reduceCtorEq, Int.reduceEq, SF0, SF1, SF2, DCqa0, DCqa1, DCqa2, DCe0, DCe1, DCe2, DDb0, DBc0, DBc1, DLa0, DCg0, DCqk0, DCpd0, DCrk0, List.length_cons, List.length_nil, ct, cf, strB_inj, List.getElem?_cons_zero, List.getElem?_cons_succ] | refine qc_one ra rfl ?_ | refine qc_one rb rfl ?_ | refine qc_one rc rfl ?_ | refine qc_one re rfl ?_ | fail
      exact fin_free rfl ⟨rfl, rfl⟩
  · rw [rlS_len h5, lnR_none]
    refine acalls_tm T_tt Tryd.func39 rfl e_readLineS 41 rfl (W8 _ .any .any .any .any .any .any .any (W8 .any .any .any .any .any .any .any .any (W8 .any .any .any .any .any .any .any .any (W8 .any .any .any .any .any .any .any .any (W8 .any .any .any .any .any .any .any .any [.any, .any]))))) rfl (rv := [.cell 2 59, .tmp 3]) rfl (sx_sound (bl := []) T_tt _ _ _ ?_)
    simp (disch := omega) only [SX0, SX1, SX2, SX3, SX4, SX5, SX6, SX7, SX8, SU0, SY0, SY1, Nat.reduceAdd, Nat.reduceMul, Nat.reduceSub, Nat.reduceLeDiff, Nat.reduceEqDiff, Nat.reduceLT, Nat.reduceBEq, ↓reduceIte, Int.reduceLE, Int.reduceLT, Int.reduceToNat, Int.reduceNeg, reduceCtorEq, Int.reduceEq, SF0, SF1, SF2, DCqa0, DCqa1, DCqa2, DCe0, DCe1, DCe2, DDb0, DBc0, DBc1, DLa0, DCg0, DCqk0, DCpd0, DCrk0, sl]
    refine br_ndec (fun _ => ?_) (fun h => by omega)
    simp (disch := omega) only [SX0, SX1, SX2, SX3, SX4, SX5, SX6, SX7, SX8, SU0, SY0, SY1, Nat.reduceAdd, Nat.reduceMul, Nat.reduceSub, Nat.reduceLeDiff, Nat.reduceEqDiff, Nat.reduceLT, Nat.reduceBEq, ↓reduceIte, Int.reduceLE, Int.reduceLT, Int.reduceToNat, Int.reduceNeg, reduceCtorEq, Int.reduceEq, SF0, SF1, SF2, DCqa0, DCqa1, DCqa2, DCe0, DCe1, DCe2, DDb0, DBc0, DBc1, DLa0, DCg0, DCqk0, DCpd0, DCrk0]
    exact fin_free rfl ⟨rfl, rfl⟩
end Go.Pc
