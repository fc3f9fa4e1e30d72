/- What the exact laws do with boxes and pieces: they measure, copy and compare them; their types. -/
import Derived.Test.YtliephdcfkiapaaLa
import Derived.Test.YtliephdcfkiapaaPa
set_option linter.unusedSimpArgs false
set_option linter.unusedVariables false
namespace Go.Pc
open Go Go.Proofs

theorem e_szBoxS : Enters Try.prog 98 := enters_of Try.func98 (by kernel_rfl) (by kernel_rfl)
theorem szBoxS_c (l : List Box) (left : Int) (hl : l.length ≤ 9223372036854775807) (h : 0 ≤ left ∧ left ≤ 1048576) : ACalls Try.prog 98 [.sl (l.map Box.cs), .val (.int .i64 left)] [] [] (fun r L => r = .val (.int .i64 (leftOf l.length left)) ∧ L = []) := by
  refine acalls_tm T_tt Try.func98 rfl e_szBoxS 10 rfl (W8 _ _ .any .any .any .any .any .any [.any, .any, .any, .any]) rfl (rv := [.tmp 4]) rfl (sx_sound (bl := []) T_tt _ _ _ ?_)
  simp (disch := omega) only [SX0, SX1, SX2, SX3, SX4, SX5, SX6, SX7, SX8, SU0, SY0, SY1, Nat.reduceAdd, Nat.reduceMul, Nat.reduceSub, Nat.reduceLeDiff, Nat.reduceEqDiff, Nat.reduceLT, Nat.reduceBEq, ↓reduceIte, Int.reduceLE, Int.reduceLT, Int.reduceToNat, Int.reduceNeg, reduceCtorEq, Int.reduceEq, SF0, SF1, SF2, DLa0, DCg0, DCe0, DCa0, DCa1, DDb0, DBc0, DBa0, DPa0, DHb0, DHb1, DHa0]
  refine br_dec (fun h1 => ?_) (fun h1 => ?_)
  · simp (disch := omega) only [SX0, SX1, SX2, SX3, SX4, SX5, SX6, SX7, SX8, SU0, SY0, SY1, Nat.reduceAdd, Nat.reduceMul, Nat.reduceSub, Nat.reduceLeDiff, Nat.reduceEqDiff, Nat.reduceLT, Nat.reduceBEq, ↓reduceIte, Int.reduceLE, Int.reduceLT, Int.reduceToNat, Int.reduceNeg, reduceCtorEq, Int.reduceEq, SF0, SF1, SF2, DLa0, DCg0, DCe0, DCa0, DCa1, DDb0, DBc0, DBa0, DPa0, DHb0, DHb1, DHa0]
    exact fin_val ⟨by unfold leftOf; rw [if_neg (by omega)], rfl⟩
  · simp (disch := omega) only [SX0, SX1, SX2, SX3, SX4, SX5, SX6, SX7, SX8, SU0, SY0, SY1, Nat.reduceAdd, Nat.reduceMul, Nat.reduceSub, Nat.reduceLeDiff, Nat.reduceEqDiff, Nat.reduceLT, Nat.reduceBEq, ↓reduceIte, Int.reduceLE, Int.reduceLT, Int.reduceToNat, Int.reduceNeg, reduceCtorEq, Int.reduceEq, SF0, SF1, SF2, DLa0, DCg0, DCe0, DCa0, DCa1, DDb0, DBc0, DBa0, DPa0, DHb0, DHb1, DHa0]
    exact fin_val ⟨by unfold leftOf; rw [if_pos (by omega)], rfl⟩

theorem e_szPiece : Enters Try.prog 46 := enters_of Try.func46 (by kernel_rfl) (by kernel_rfl)
theorem szPiece_c (q : Piece) (left : Int) (hl : q.Fl.length ≤ 9223372036854775807) (h : 0 ≤ left ∧ left ≤ 1048576) : ACalls Try.prog 46 [.agg q.cs, .val (.int .i64 left)] [] [] (fun r L => r = .val (.int .i64 (leftOf q.Fl.length left)) ∧ L = []) := by
  refine acalls_tm T_tt Try.func46 rfl e_szPiece 10 rfl (W8 _ _ .any .any .any .any .any .any [.any, .any, .any, .any]) rfl (rv := [.tmp 4]) rfl (sx_sound (bl := []) T_tt _ _ _ ?_)
  simp (disch := omega) only [SX0, SX1, SX2, SX3, SX4, SX5, SX6, SX7, SX8, SU0, SY0, SY1, Nat.reduceAdd, Nat.reduceMul, Nat.reduceSub, Nat.reduceLeDiff, Nat.reduceEqDiff, Nat.reduceLT, Nat.reduceBEq, ↓reduceIte, Int.reduceLE, Int.reduceLT, Int.reduceToNat, Int.reduceNeg, reduceCtorEq, Int.reduceEq, SF0, SF1, SF2, DLa0, DCg0, DCe0, DCa0, DCa1, DDb0, DBc0, DBa0, DPa0, DHb0, DHb1, DHa0]
  refine acall_one (szBoxS_c q.Fl left hl h) rfl rfl ?_
  simp (disch := omega) only [SX0, SX1, SX2, SX3, SX4, SX5, SX6, SX7, SX8, SU0, SY0, SY1, Nat.reduceAdd, Nat.reduceMul, Nat.reduceSub, Nat.reduceLeDiff, Nat.reduceEqDiff, Nat.reduceLT, Nat.reduceBEq, ↓reduceIte, Int.reduceLE, Int.reduceLT, Int.reduceToNat, Int.reduceNeg, reduceCtorEq, Int.reduceEq, SF0, SF1, SF2, DLa0, DCg0, DCe0, DCa0, DCa1, DDb0, DBc0, DBa0, DPa0, DHb0, DHb1, DHa0]
  refine br_dec (fun h1 => ?_) (fun h1 => ?_)
  · simp (disch := omega) only [SX0, SX1, SX2, SX3, SX4, SX5, SX6, SX7, SX8, SU0, SY0, SY1, Nat.reduceAdd, Nat.reduceMul, Nat.reduceSub, Nat.reduceLeDiff, Nat.reduceEqDiff, Nat.reduceLT, Nat.reduceBEq, ↓reduceIte, Int.reduceLE, Int.reduceLT, Int.reduceToNat, Int.reduceNeg, reduceCtorEq, Int.reduceEq, SF0, SF1, SF2, DLa0, DCg0, DCe0, DCa0, DCa1, DDb0, DBc0, DBa0, DPa0, DHb0, DHb1, DHa0]
    exact fin_val ⟨by unfold leftOf at *; split at h1 <;> simp_all <;> omega, rfl⟩
  · simp (disch := omega) only [SX0, SX1, SX2, SX3, SX4, SX5, SX6, SX7, SX8, SU0, SY0, SY1, Nat.reduceAdd, Nat.reduceMul, Nat.reduceSub, Nat.reduceLeDiff, Nat.reduceEqDiff, Nat.reduceLT, Nat.reduceBEq, ↓reduceIte, Int.reduceLE, Int.reduceLT, Int.reduceToNat, Int.reduceNeg, reduceCtorEq, Int.reduceEq, SF0, SF1, SF2, DLa0, DCg0, DCe0, DCa0, DCa1, DDb0, DBc0, DBa0, DPa0, DHb0, DHb1, DHa0]
    exact fin_val ⟨rfl, rfl⟩

theorem e_toBox : Enters Try.prog 138 := enters_of Try.func138 (by kernel_rfl) (by kernel_rfl)
theorem toBox_c (q : Box) : ACalls Try.prog 138 [.agg q.cs] [] [] (fun r L => r = .agg q.cs ∧ L = []) := by
  refine acalls_tm T_tt Try.func138 rfl e_toBox 16 rfl (W8 _ .any .any .any .any .any .any .any (W8 .any .any .any .any .any .any .any .any [.any])) rfl (rv := [.cell 2 44]) rfl (sx_sound (bl := []) T_tt _ _ _ ?_)
  simp (disch := omega) only [SX0, SX1, SX2, SX3, SX4, SX5, SX6, SX7, SX8, SU0, SY0, SY1, Nat.reduceAdd, Nat.reduceMul, Nat.reduceSub, Nat.reduceLeDiff, Nat.reduceEqDiff, Nat.reduceLT, Nat.reduceBEq, ↓reduceIte, Int.reduceLE, Int.reduceLT, Int.reduceToNat, Int.reduceNeg, reduceCtorEq, Int.reduceEq, SF0, SF1, SF2, DLa0, DCg0, DCe0, DCa0, DCa1, DDb0, DBc0, DBa0, DPa0, DHb0, DHb1, DHa0, Box.cs]
  exact fin_free rfl ⟨rfl, rfl⟩

def zBox : List AV := [.val (.int .i64 0), .val (.int .i64 0), .val (.int .i64 0), .val (.int .i64 0)]
theorem zBox_len : zBox.length = 4 := rfl
theorem zBox_drop : zBox.drop 4 = [] := rfl
theorem DPb0 : type_of% @zBox_len ∧ type_of% @zBox_drop := ⟨@zBox_len, @zBox_drop⟩
theorem e_toBoxS : Enters Try.prog 101 := enters_of Try.func101 (by kernel_rfl) (by kernel_rfl)
set_option maxHeartbeats 1000000 in
theorem toBoxS_c (l : List Box) (hl : l.length ≤ 1048576) : ACalls Try.prog 101 [.sl (l.map Box.cs)] [] [] (fun r L => r = .sl (l.map Box.cs) ∧ L = []) := by
  refine acalls_tm T_tt Try.func101 rfl e_toBoxS 22 rfl (W8 _ .any .any .any .any .any .any .any (W8 .any .any .any .any .any .any .any .any [.any, .any, .any, .any, .any, .any, .any])) rfl (rv := [.tmp 2]) rfl (sx_sound (bl := []) T_tt _ _ _ ?_)
  simp (disch := omega) only [SX0, SX1, SX2, SX3, SX4, SX5, SX6, SX7, SX8, SU0, SY0, SY1, Nat.reduceAdd, Nat.reduceMul, Nat.reduceSub, Nat.reduceLeDiff, Nat.reduceEqDiff, Nat.reduceLT, Nat.reduceBEq, ↓reduceIte, Int.reduceLE, Int.reduceLT, Int.reduceToNat, Int.reduceNeg, reduceCtorEq, Int.reduceEq, SF0, SF1, SF2, DLa0, DCg0, DCe0, DCa0, DCa1, DDb0, DBc0, DBa0, DPa0, DHb0, DHb1, DHa0, DPb0]
  refine req (by omega) ?_
  simp (disch := omega) only [SX0, SX1, SX2, SX3, SX4, SX5, SX6, SX7, SX8, SU0, SY0, SY1, Nat.reduceAdd, Nat.reduceMul, Nat.reduceSub, Nat.reduceLeDiff, Nat.reduceEqDiff, Nat.reduceLT, Nat.reduceBEq, ↓reduceIte, Int.reduceLE, Int.reduceLT, Int.reduceToNat, Int.reduceNeg, reduceCtorEq, Int.reduceEq, SF0, SF1, SF2, DLa0, DCg0, DCe0, DCa0, DCa1, DDb0, DBc0, DBa0, DPa0, DHb0, DHb1, DHa0, DPb0]
  with_reducible refine awp_loop_h 3 20 (fun (i : Nat) => [(3, .os 0 4 0 l.length), (4, .val (.int .i64 i))]) (fun i => [.vec 4 (fillR (l.map Box.cs) zBox i)]) (fun i => i ≤ l.length) (fun i => l.length - i) 0 (Nat.zero_le _) ?_ (fun i hi => sx_sound (bl := []) T_tt _ _ _ ?_)
  · simp (disch := omega) only [SX0, SX1, SX2, SX3, SX4, SX5, SX6, SX7, SX8, SU0, SY0, SY1, Nat.reduceAdd, Nat.reduceMul, Nat.reduceSub, Nat.reduceLeDiff, Nat.reduceEqDiff, Nat.reduceLT, Nat.reduceBEq, ↓reduceIte, Int.reduceLE, Int.reduceLT, Int.reduceToNat, Int.reduceNeg, reduceCtorEq, Int.reduceEq, SF0, SF1, SF2, DLa0, DCg0, DCe0, DCa0, DCa1, DDb0, DBc0, DBa0, DPa0, DHb0, DHb1, DHa0, DPb0]
    (refine wk_le ?_ ?_ ?_; (focus (simp [W8, leTm, leAV, AV.under, underL, fillR_zero, zBox]; done)); (focus (simp [leL, OB.under, underL, AV.under, fillR_zero, zBox]; done)); (focus (simp; done)))
  simp (disch := omega) only [SX0, SX1, SX2, SX3, SX4, SX5, SX6, SX7, SX8, SU0, SY0, SY1, Nat.reduceAdd, Nat.reduceMul, Nat.reduceSub, Nat.reduceLeDiff, Nat.reduceEqDiff, Nat.reduceLT, Nat.reduceBEq, ↓reduceIte, Int.reduceLE, Int.reduceLT, Int.reduceToNat, Int.reduceNeg, reduceCtorEq, Int.reduceEq, SF0, SF1, SF2, DLa0, DCg0, DCe0, DCa0, DCa1, DDb0, DBc0, DBa0, DPa0, DHb0, DHb1, DHa0, DPb0]
  refine br_dec (fun h1 => ?_) (fun h1 => ?_)
  · obtain ⟨q, hq⟩ := get_lt (l := l) (i := i) (by omega)
    have hlt : i < (l.map Box.cs).length := by simp; omega
    have hs := fillR_set (z := zBox) (show (l.map Box.cs)[i]? = some q.cs by simp [hq])
    have hg := fillR_get (z := zBox) hlt
    have h2t : ((i : Int) < (l.length : Int)) = True := eq_true h1
    simp (disch := omega) only [SX0, SX1, SX2, SX3, SX4, SX5, SX6, SX7, SX8, SU0, SY0, SY1, Nat.reduceAdd, Nat.reduceMul, Nat.reduceSub, Nat.reduceLeDiff, Nat.reduceEqDiff, Nat.reduceLT, Nat.reduceBEq, ↓reduceIte, Int.reduceLE, Int.reduceLT, Int.reduceToNat, Int.reduceNeg, reduceCtorEq, Int.reduceEq, SF0, SF1, SF2, DLa0, DCg0, DCe0, DCa0, DCa1, DDb0, DBc0, DBa0, DPa0, DHb0, DHb1, DHa0, DPb0, hq]
    refine acall_one (toBox_c q) rfl rfl ?_
    simp (disch := omega) only [SX0, SX1, SX2, SX3, SX4, SX5, SX6, SX7, SX8, SU0, SY0, SY1, Nat.reduceAdd, Nat.reduceMul, Nat.reduceSub, Nat.reduceLeDiff, Nat.reduceEqDiff, Nat.reduceLT, Nat.reduceBEq, ↓reduceIte, Int.reduceLE, Int.reduceLT, Int.reduceToNat, Int.reduceNeg, reduceCtorEq, Int.reduceEq, SF0, SF1, SF2, DLa0, DCg0, DCe0, DCa0, DCa1, DDb0, DBc0, DBa0, DPa0, DHb0, DHb1, DHa0, DPb0, hq, hg, h2t]
    refine ⟨i + 1, by omega, by omega, ?_⟩
    (refine wk_le ?_ ?_ ?_; (focus (simp [W8, leTm, leAV, AV.under, underL, hs]; done)); (focus (simp [leL, OB.under, underL, AV.under, hs]; done)); (focus (simp; done)))
  · simp (disch := omega) only [SX0, SX1, SX2, SX3, SX4, SX5, SX6, SX7, SX8, SU0, SY0, SY1, Nat.reduceAdd, Nat.reduceMul, Nat.reduceSub, Nat.reduceLeDiff, Nat.reduceEqDiff, Nat.reduceLT, Nat.reduceBEq, ↓reduceIte, Int.reduceLE, Int.reduceLT, Int.reduceToNat, Int.reduceNeg, reduceCtorEq, Int.reduceEq, SF0, SF1, SF2, DLa0, DCg0, DCe0, DCa0, DCa1, DDb0, DBc0, DBa0, DPa0, DHb0, DHb1, DHa0, DPb0]
    exact fin_row rfl (by simp [fillR_len]) ⟨by rw [fillR_full _ _ (by simp; omega)], rfl⟩

theorem e_toPiece : Enters Try.prog 48 := enters_of Try.func48 (by kernel_rfl) (by kernel_rfl)
theorem toPiece_c (q : Piece) (hl : q.Fl.length ≤ 1048576) : ACalls Try.prog 48 [.agg q.cs] [] [] (fun r L => r = .agg q.cs ∧ L = []) := by
  refine acalls_tm T_tt Try.func48 rfl e_toPiece 17 rfl (W8 _ .any .any .any .any .any .any .any (W8 .any .any .any .any .any .any .any .any [.any, .any])) rfl (rv := [.cell 2 83]) rfl (sx_sound (bl := []) T_tt _ _ _ ?_)
  simp (disch := omega) only [SX0, SX1, SX2, SX3, SX4, SX5, SX6, SX7, SX8, SU0, SY0, SY1, Nat.reduceAdd, Nat.reduceMul, Nat.reduceSub, Nat.reduceLeDiff, Nat.reduceEqDiff, Nat.reduceLT, Nat.reduceBEq, ↓reduceIte, Int.reduceLE, Int.reduceLT, Int.reduceToNat, Int.reduceNeg, reduceCtorEq, Int.reduceEq, SF0, SF1, SF2, DLa0, DCg0, DCe0, DCa0, DCa1, DDb0, DBc0, DBa0, DPa0, DHb0, DHb1, DHa0, DPb0]
  refine acall_one (toBoxS_c q.Fl hl) rfl rfl ?_
  simp (disch := omega) only [SX0, SX1, SX2, SX3, SX4, SX5, SX6, SX7, SX8, SU0, SY0, SY1, Nat.reduceAdd, Nat.reduceMul, Nat.reduceSub, Nat.reduceLeDiff, Nat.reduceEqDiff, Nat.reduceLT, Nat.reduceBEq, ↓reduceIte, Int.reduceLE, Int.reduceLT, Int.reduceToNat, Int.reduceNeg, reduceCtorEq, Int.reduceEq, SF0, SF1, SF2, DLa0, DCg0, DCe0, DCa0, DCa1, DDb0, DBc0, DBa0, DPa0, DHb0, DHb1, DHa0, DPb0]
  exact fin_free rfl ⟨rfl, rfl⟩

theorem e_eqBox : Enters Try.prog 139 := enters_of Try.func139 (by kernel_rfl) (by kernel_rfl)
theorem eqBox_c (q : Box) : ACalls Try.prog 139 [.agg q.cs, .agg q.cs] [] [] (fun r L => r = .val (.bool true) ∧ L = []) := by
  refine acalls_tm T_tt Try.func139 rfl e_eqBox 23 rfl (W8 _ _ .any .any .any .any .any .any (W8 .any .any .any .any .any .any .any .any (W8 .any .any .any .any .any .any .any .any [.any]))) rfl (rv := [.tmp 4]) rfl (sx_sound (bl := []) T_tt _ _ _ ?_)
  simp (disch := omega) only [SX0, SX1, SX2, SX3, SX4, SX5, SX6, SX7, SX8, SU0, SY0, SY1, Nat.reduceAdd, Nat.reduceMul, Nat.reduceSub, Nat.reduceLeDiff, Nat.reduceEqDiff, Nat.reduceLT, Nat.reduceBEq, ↓reduceIte, Int.reduceLE, Int.reduceLT, Int.reduceToNat, Int.reduceNeg, reduceCtorEq, Int.reduceEq, SF0, SF1, SF2, DLa0, DCg0, DCe0, DCa0, DCa1, DDb0, DBc0, DBa0, DPa0, DHb0, DHb1, DHa0, DPb0]
  exact fin_val ⟨rfl, rfl⟩

theorem e_eqBoxS : Enters Try.prog 103 := enters_of Try.func103 (by kernel_rfl) (by kernel_rfl)
set_option maxHeartbeats 1000000 in
theorem eqBoxS_c (l : List Box) (hl : l.length < 2 ^ 40) : ACalls Try.prog 103 [.sl (l.map Box.cs), .sl (l.map Box.cs)] [] [] (fun r L => r = .val (.bool true) ∧ L = []) := by
  refine acalls_tm T_tt Try.func103 rfl e_eqBoxS 25 rfl (W8 _ _ .any .any .any .any .any .any (W8 .any .any .any .any .any .any .any .any (W8 .any .any .any .any .any .any .any .any [.any, .any, .any]))) rfl (rv := [.tmp 4]) rfl (sx_sound (bl := []) T_tt _ _ _ ?_)
  simp (disch := omega) only [SX0, SX1, SX2, SX3, SX4, SX5, SX6, SX7, SX8, SU0, SY0, SY1, Nat.reduceAdd, Nat.reduceMul, Nat.reduceSub, Nat.reduceLeDiff, Nat.reduceEqDiff, Nat.reduceLT, Nat.reduceBEq, ↓reduceIte, Int.reduceLE, Int.reduceLT, Int.reduceToNat, Int.reduceNeg, reduceCtorEq, Int.reduceEq, SF0, SF1, SF2, DLa0, DCg0, DCe0, DCa0, DCa1, DDb0, DBc0, DBa0, DPa0, DHb0, DHb1, DHa0, DPb0]
  with_reducible refine awp_loop_h 5 22 (fun (i : Nat) => [(5, .val (.int .i64 i))]) (fun i => []) (fun i => i ≤ l.length) (fun i => l.length - i) 0 (Nat.zero_le _) ?_ (fun i hi => sx_sound (bl := []) T_tt _ _ _ ?_)
  · simp (disch := omega) only [SX0, SX1, SX2, SX3, SX4, SX5, SX6, SX7, SX8, SU0, SY0, SY1, Nat.reduceAdd, Nat.reduceMul, Nat.reduceSub, Nat.reduceLeDiff, Nat.reduceEqDiff, Nat.reduceLT, Nat.reduceBEq, ↓reduceIte, Int.reduceLE, Int.reduceLT, Int.reduceToNat, Int.reduceNeg, reduceCtorEq, Int.reduceEq, SF0, SF1, SF2, DLa0, DCg0, DCe0, DCa0, DCa1, DDb0, DBc0, DBa0, DPa0, DHb0, DHb1, DHa0, DPb0]
    (refine wk_le ?_ ?_ ?_; (focus (simp [W8, leTm, leAV, AV.under, underL]; done)); (focus (simp [leL, OB.under, underL, AV.under]; done)); (focus (simp; done)))
  simp (disch := omega) only [SX0, SX1, SX2, SX3, SX4, SX5, SX6, SX7, SX8, SU0, SY0, SY1, Nat.reduceAdd, Nat.reduceMul, Nat.reduceSub, Nat.reduceLeDiff, Nat.reduceEqDiff, Nat.reduceLT, Nat.reduceBEq, ↓reduceIte, Int.reduceLE, Int.reduceLT, Int.reduceToNat, Int.reduceNeg, reduceCtorEq, Int.reduceEq, SF0, SF1, SF2, DLa0, DCg0, DCe0, DCa0, DCa1, DDb0, DBc0, DBa0, DPa0, DHb0, DHb1, DHa0, DPb0]
  refine br_dec (fun h1 => ?_) (fun h1 => ?_)
  · obtain ⟨q, hq⟩ := get_lt (l := l) (i := i) (by omega)
    simp (disch := omega) only [SX0, SX1, SX2, SX3, SX4, SX5, SX6, SX7, SX8, SU0, SY0, SY1, Nat.reduceAdd, Nat.reduceMul, Nat.reduceSub, Nat.reduceLeDiff, Nat.reduceEqDiff, Nat.reduceLT, Nat.reduceBEq, ↓reduceIte, Int.reduceLE, Int.reduceLT, Int.reduceToNat, Int.reduceNeg, reduceCtorEq, Int.reduceEq, SF0, SF1, SF2, DLa0, DCg0, DCe0, DCa0, DCa1, DDb0, DBc0, DBa0, DPa0, DHb0, DHb1, DHa0, DPb0]
    refine awp_drawA T_tt mixed (by decide +kernel) (by kernel_rfl) (by kernel_rfl) ?_
    simp (disch := omega) only [SX0, SX1, SX2, SX3, SX4, SX5, SX6, SX7, SX8, SU0, SY0, SY1, Nat.reduceAdd, Nat.reduceMul, Nat.reduceSub, Nat.reduceLeDiff, Nat.reduceEqDiff, Nat.reduceLT, Nat.reduceBEq, ↓reduceIte, Int.reduceLE, Int.reduceLT, Int.reduceToNat, Int.reduceNeg, reduceCtorEq, Int.reduceEq, SF0, SF1, SF2, DLa0, DCg0, DCe0, DCa0, DCa1, DDb0, DBc0, DBa0, DPa0, DHb0, DHb1, DHa0, DPb0, hq]
    refine qc_one (eqBox_c q) rfl ?_
    simp (disch := omega) only [SX0, SX1, SX2, SX3, SX4, SX5, SX6, SX7, SX8, SU0, SY0, SY1, Nat.reduceAdd, Nat.reduceMul, Nat.reduceSub, Nat.reduceLeDiff, Nat.reduceEqDiff, Nat.reduceLT, Nat.reduceBEq, ↓reduceIte, Int.reduceLE, Int.reduceLT, Int.reduceToNat, Int.reduceNeg, reduceCtorEq, Int.reduceEq, SF0, SF1, SF2, DLa0, DCg0, DCe0, DCa0, DCa1, DDb0, DBc0, DBa0, DPa0, DHb0, DHb1, DHa0, DPb0]
    refine ⟨i + 1, by omega, by omega, ?_⟩
    (refine wk_le ?_ ?_ ?_; (focus (simp [W8, leTm, leAV, AV.under, underL]; done)); (focus (simp [leL, OB.under, underL, AV.under]; done)); (focus (simp; done)))
  · simp (disch := omega) only [SX0, SX1, SX2, SX3, SX4, SX5, SX6, SX7, SX8, SU0, SY0, SY1, Nat.reduceAdd, Nat.reduceMul, Nat.reduceSub, Nat.reduceLeDiff, Nat.reduceEqDiff, Nat.reduceLT, Nat.reduceBEq, ↓reduceIte, Int.reduceLE, Int.reduceLT, Int.reduceToNat, Int.reduceNeg, reduceCtorEq, Int.reduceEq, SF0, SF1, SF2, DLa0, DCg0, DCe0, DCa0, DCa1, DDb0, DBc0, DBa0, DPa0, DHb0, DHb1, DHa0, DPb0]
    exact fin_val ⟨rfl, rfl⟩

theorem e_eqPiece : Enters Try.prog 50 := enters_of Try.func50 (by kernel_rfl) (by kernel_rfl)
theorem eqPiece_c (q : Piece) (hl : q.Fl.length < 2 ^ 40) : ACalls Try.prog 50 [.agg q.cs, .agg q.cs] [] [] (fun r L => r = .val (.bool true) ∧ L = []) := by
  refine acalls_tm T_tt Try.func50 rfl e_eqPiece 24 rfl (W8 _ _ .any .any .any .any .any .any (W8 .any .any .any .any .any .any .any .any (W8 .any .any .any .any .any .any .any .any [.any, .any]))) rfl (rv := [.tmp 4]) rfl (sx_sound (bl := []) T_tt _ _ _ ?_)
  simp (disch := omega) only [SX0, SX1, SX2, SX3, SX4, SX5, SX6, SX7, SX8, SU0, SY0, SY1, Nat.reduceAdd, Nat.reduceMul, Nat.reduceSub, Nat.reduceLeDiff, Nat.reduceEqDiff, Nat.reduceLT, Nat.reduceBEq, ↓reduceIte, Int.reduceLE, Int.reduceLT, Int.reduceToNat, Int.reduceNeg, reduceCtorEq, Int.reduceEq, SF0, SF1, SF2, DLa0, DCg0, DCe0, DCa0, DCa1, DDb0, DBc0, DBa0, DPa0, DHb0, DHb1, DHa0, DPb0]
  refine acall_one (eqBoxS_c q.Fl hl) rfl rfl ?_
  simp (disch := omega) only [SX0, SX1, SX2, SX3, SX4, SX5, SX6, SX7, SX8, SU0, SY0, SY1, Nat.reduceAdd, Nat.reduceMul, Nat.reduceSub, Nat.reduceLeDiff, Nat.reduceEqDiff, Nat.reduceLT, Nat.reduceBEq, ↓reduceIte, Int.reduceLE, Int.reduceLT, Int.reduceToNat, Int.reduceNeg, reduceCtorEq, Int.reduceEq, SF0, SF1, SF2, DLa0, DCg0, DCe0, DCa0, DCa1, DDb0, DBc0, DBa0, DPa0, DHb0, DHb1, DHa0, DPb0]
  exact fin_val ⟨rfl, rfl⟩


set_option maxRecDepth 100000
theorem box_shp {n : Nat} {xs : List AV} (h : Shp Try.prog n 173 xs) : ∃ q : Box, xs = q.cs := by
  obtain ⟨m, rfl, hl, hf⟩ := struct_shp Try.underlying173 h
  have hc : Try.prog.cellsOf 173 = 4 := by kernel_rfl
  have c3 : Try.prog.cellsOf 3 = 1 := by kernel_rfl
  rw [hc] at hl
  obtain ⟨a, b, c, d, rfl⟩ := len4 hl
  · skip
    simp only [List.forall_mem_cons, List.not_mem_nil, c3, List.drop_succ_cons, List.drop_zero, List.take_succ_cons, List.take_zero] at hf
    obtain ⟨h1, h2, h3, h4, _⟩ := hf
    obtain ⟨x, h1, _⟩ := int_shp Try.underlying3 h1
    obtain ⟨y, h2, _⟩ := int_shp Try.underlying3 h2
    obtain ⟨w, h3, _⟩ := int_shp Try.underlying3 h3
    obtain ⟨hh, h4, _⟩ := int_shp Try.underlying3 h4
    cases h1; cases h2; cases h3; cases h4
    exact ⟨⟨x, y, w, hh⟩, rfl⟩

theorem piece_shp {n : Nat} {xs : List AV} (h : Shp Try.prog n 79 xs) : ∃ k : Piece, xs = k.cs ∧ k.Fl.length ≤ 9223372036854775807 ∧ (-9223372036854775808 ≤ k.W ∧ k.W ≤ 9223372036854775807) ∧ (-9223372036854775808 ≤ k.H ∧ k.H ≤ 9223372036854775807) := by
  obtain ⟨m, rfl, hl, hf⟩ := struct_shp Try.underlying79 h
  have hc : Try.prog.cellsOf 79 = 4 := by kernel_rfl
  have c3 : Try.prog.cellsOf 3 = 1 := by kernel_rfl
  have c81 : Try.prog.cellsOf 77 = 1 := by kernel_rfl
  rw [hc] at hl
  obtain ⟨a, b, c, d, rfl⟩ := len4 hl
  · skip
    simp only [List.forall_mem_cons, List.not_mem_nil, c3, c81, List.drop_succ_cons, List.drop_zero, List.take_succ_cons, List.take_zero] at hf
    obtain ⟨h1, h2, h3, h4, _⟩ := hf
    obtain ⟨la, h1, _⟩ := int_shp Try.underlying3 h1
    obtain ⟨w, h2, hw⟩ := int_shp Try.underlying3 h2
    obtain ⟨hh, h3, hh'⟩ := int_shp Try.underlying3 h3
    obtain ⟨m', es, _, h4, hle, hes⟩ := row_shp Try.underlying77 h4
    cases h1; cases h2; cases h3; cases h4
    obtain ⟨l, rfl⟩ := rows_of (cs := Box.cs) fun c hc => box_shp (hes c hc)
    exact ⟨⟨la, w, hh, l⟩, rfl, by simpa using hle, hw, hh'⟩

section
open Go.ChangeShapes Go.WideShapes
variable {H : Type} {enc : TypeId × Value → H} {W : World} {r : Reach} {b0 : Nat} {v : Value} {d : DataW H} {p : List MemPlace}
theorem opened_piece (hw : Value.okWide Try.prog W r b0 79 v) (h : DataW.Trod enc Try.prog W 0 (fun _ => true) true 79 v d p) : ∃ k : Piece, VR W rho0 v (.agg k.cs) ∧ k.Fl.length ≤ 9223372036854775807 ∧ (-9223372036854775808 ≤ k.W ∧ k.W ≤ 9223372036854775807) ∧ (-9223372036854775808 ≤ k.H ∧ k.H ≤ 9223372036854775807) := by
  obtain ⟨n, xs, h1, h2⟩ := struct_opened (S := [79, 3, 77, 173]) (plain_all (by kernel_rfl)) (by simp) Try.underlying79 hw h
  obtain ⟨k, rfl, hk⟩ := piece_shp h1
  exact ⟨k, h2, hk⟩
end

def FnExactGoodPlan_hyp : Prop := ∀ (x0 : Piece) (_ : x0.Fl.length ≤ 9223372036854775807 ∧ (-9223372036854775808 ≤ x0.W ∧ x0.W ≤ 9223372036854775807) ∧ (-9223372036854775808 ≤ x0.H ∧ x0.H ≤ 9223372036854775807)) (x1 : Work) (_ : x1.Ps.length ≤ 9223372036854775807) (x2 : Plan) (_ : x2.Lens), ACalls Try.prog 9 [.agg x0.cs, .agg x1.cs, .agg x2.cs] [] [] (fun r L => r = .val (.bool true) ∧ L = [])
theorem e_fnExactGoodPlan : Enters Try.prog 9 := enters_of Try.func9 (by kernel_rfl) (by kernel_rfl)
set_option maxHeartbeats 1000000 in
theorem fnExactGoodPlan_c : FnExactGoodPlan_hyp := by
  intro q hq k hk p hp
  refine acalls_tm T_tt Try.func9 rfl e_fnExactGoodPlan 60 rfl (W8 _ _ _ .any .any .any .any .any (W8 .any .any .any .any .any .any .any .any (W8 .any .any .any .any .any .any .any .any (W8 .any .any .any .any .any .any .any .any (W8 .any .any .any .any .any .any .any .any (W8 .any .any .any .any .any .any .any .any (W8 .any .any .any .any .any .any .any .any [.any, .any, .any, .any, .any, .any, .any]))))))) rfl (rv := [.tmp 6]) rfl (sx_sound (bl := []) T_tt _ _ _ ?_)
  simp (disch := omega) only [SX0, SX1, SX2, SX3, SX4, SX5, SX6, SX7, SX8, SU0, SY0, SY1, Nat.reduceAdd, Nat.reduceMul, Nat.reduceSub, Nat.reduceLeDiff, Nat.reduceEqDiff, Nat.reduceLT, Nat.reduceBEq, ↓reduceIte, Int.reduceLE, Int.reduceLT, Int.reduceToNat, Int.reduceNeg, reduceCtorEq, Int.reduceEq, SF0, SF1, SF2, DLa0, DCg0, DCe0, DCa0, DCa1, DDb0, DBc0, DBa0, DPa0, DHb0, DHb1, DHa0, DPb0]
  refine acall_one (szPiece_c q 1048576 hq.1 (by omega)) rfl rfl ?_
  simp (disch := omega) only [SX0, SX1, SX2, SX3, SX4, SX5, SX6, SX7, SX8, SU0, SY0, SY1, Nat.reduceAdd, Nat.reduceMul, Nat.reduceSub, Nat.reduceLeDiff, Nat.reduceEqDiff, Nat.reduceLT, Nat.reduceBEq, ↓reduceIte, Int.reduceLE, Int.reduceLT, Int.reduceToNat, Int.reduceNeg, reduceCtorEq, Int.reduceEq, SF0, SF1, SF2, DLa0, DCg0, DCe0, DCa0, DCa1, DDb0, DBc0, DBa0, DPa0, DHb0, DHb1, DHa0, DPb0]
  refine br_dec (fun h1 => ?_) (fun h1 => ?_)
  · simp (disch := omega) only [SX0, SX1, SX2, SX3, SX4, SX5, SX6, SX7, SX8, SU0, SY0, SY1, Nat.reduceAdd, Nat.reduceMul, Nat.reduceSub, Nat.reduceLeDiff, Nat.reduceEqDiff, Nat.reduceLT, Nat.reduceBEq, ↓reduceIte, Int.reduceLE, Int.reduceLT, Int.reduceToNat, Int.reduceNeg, reduceCtorEq, Int.reduceEq, SF0, SF1, SF2, DLa0, DCg0, DCe0, DCa0, DCa1, DDb0, DBc0, DBa0, DPa0, DHb0, DHb1, DHa0, DPb0]
    exact fin_val ⟨rfl, rfl⟩
  obtain ⟨hq1, e1⟩ := leftOf_pos h1
  rw [e1]
  simp (disch := omega) only [SX0, SX1, SX2, SX3, SX4, SX5, SX6, SX7, SX8, SU0, SY0, SY1, Nat.reduceAdd, Nat.reduceMul, Nat.reduceSub, Nat.reduceLeDiff, Nat.reduceEqDiff, Nat.reduceLT, Nat.reduceBEq, ↓reduceIte, Int.reduceLE, Int.reduceLT, Int.reduceToNat, Int.reduceNeg, reduceCtorEq, Int.reduceEq, SF0, SF1, SF2, DLa0, DCg0, DCe0, DCa0, DCa1, DDb0, DBc0, DBa0, DPa0, DHb0, DHb1, DHa0, DPb0]
  refine acall_one (szWork_c k _ hk (by omega)) rfl rfl ?_
  simp (disch := omega) only [SX0, SX1, SX2, SX3, SX4, SX5, SX6, SX7, SX8, SU0, SY0, SY1, Nat.reduceAdd, Nat.reduceMul, Nat.reduceSub, Nat.reduceLeDiff, Nat.reduceEqDiff, Nat.reduceLT, Nat.reduceBEq, ↓reduceIte, Int.reduceLE, Int.reduceLT, Int.reduceToNat, Int.reduceNeg, reduceCtorEq, Int.reduceEq, SF0, SF1, SF2, DLa0, DCg0, DCe0, DCa0, DCa1, DDb0, DBc0, DBa0, DPa0, DHb0, DHb1, DHa0, DPb0]
  refine br_dec (fun h2 => ?_) (fun h2 => ?_)
  · simp (disch := omega) only [SX0, SX1, SX2, SX3, SX4, SX5, SX6, SX7, SX8, SU0, SY0, SY1, Nat.reduceAdd, Nat.reduceMul, Nat.reduceSub, Nat.reduceLeDiff, Nat.reduceEqDiff, Nat.reduceLT, Nat.reduceBEq, ↓reduceIte, Int.reduceLE, Int.reduceLT, Int.reduceToNat, Int.reduceNeg, reduceCtorEq, Int.reduceEq, SF0, SF1, SF2, DLa0, DCg0, DCe0, DCa0, DCa1, DDb0, DBc0, DBa0, DPa0, DHb0, DHb1, DHa0, DPb0]
    exact fin_val ⟨rfl, rfl⟩
  obtain ⟨hk1, e2⟩ := leftOf_pos h2
  rw [e2]
  simp (disch := omega) only [SX0, SX1, SX2, SX3, SX4, SX5, SX6, SX7, SX8, SU0, SY0, SY1, Nat.reduceAdd, Nat.reduceMul, Nat.reduceSub, Nat.reduceLeDiff, Nat.reduceEqDiff, Nat.reduceLT, Nat.reduceBEq, ↓reduceIte, Int.reduceLE, Int.reduceLT, Int.reduceToNat, Int.reduceNeg, reduceCtorEq, Int.reduceEq, SF0, SF1, SF2, DLa0, DCg0, DCe0, DCa0, DCa1, DDb0, DBc0, DBa0, DPa0, DHb0, DHb1, DHa0, DPb0]
  refine acall_one (szPlan_c p _ hp (by omega)) (by simp [freeL, AV.free, Plan.free]) rfl ?_
  simp (disch := omega) only [SX0, SX1, SX2, SX3, SX4, SX5, SX6, SX7, SX8, SU0, SY0, SY1, Nat.reduceAdd, Nat.reduceMul, Nat.reduceSub, Nat.reduceLeDiff, Nat.reduceEqDiff, Nat.reduceLT, Nat.reduceBEq, ↓reduceIte, Int.reduceLE, Int.reduceLT, Int.reduceToNat, Int.reduceNeg, reduceCtorEq, Int.reduceEq, SF0, SF1, SF2, DLa0, DCg0, DCe0, DCa0, DCa1, DDb0, DBc0, DBa0, DPa0, DHb0, DHb1, DHa0, DPb0]
  refine br_dec (fun h3 => ?_) (fun h3 => ?_)
  · simp (disch := omega) only [SX0, SX1, SX2, SX3, SX4, SX5, SX6, SX7, SX8, SU0, SY0, SY1, Nat.reduceAdd, Nat.reduceMul, Nat.reduceSub, Nat.reduceLeDiff, Nat.reduceEqDiff, Nat.reduceLT, Nat.reduceBEq, ↓reduceIte, Int.reduceLE, Int.reduceLT, Int.reduceToNat, Int.reduceNeg, reduceCtorEq, Int.reduceEq, SF0, SF1, SF2, DLa0, DCg0, DCe0, DCa0, DCa1, DDb0, DBc0, DBa0, DPa0, DHb0, DHb1, DHa0, DPb0]
    exact fin_val ⟨rfl, rfl⟩
  have hp1 := (leftOf_pos h3).1
  have hpn : p.nodes ≤ 1048577 := by omega
  have hkn : k.Ps.length ≤ 1048576 := by omega
  have hqn : q.Fl.length ≤ 1048576 := by omega
  have TQ := toPiece_c q hqn
  have TW := toWork_c k hkn
  have TP := toPlan_c p hpn
  have GS := goodPlanSS_c q k p (by omega) (by omega) hq.2
  simp (disch := omega) only [SX0, SX1, SX2, SX3, SX4, SX5, SX6, SX7, SX8, SU0, SY0, SY1, Nat.reduceAdd, Nat.reduceMul, Nat.reduceSub, Nat.reduceLeDiff, Nat.reduceEqDiff, Nat.reduceLT, Nat.reduceBEq, ↓reduceIte, Int.reduceLE, Int.reduceLT, Int.reduceToNat, Int.reduceNeg, reduceCtorEq, Int.reduceEq, SF0, SF1, SF2, DLa0, DCg0, DCe0, DCa0, DCa1, DDb0, DBc0, DBa0, DPa0, DHb0, DHb1, DHa0, DPb0]
  refine awp_drawA T_tt mixed (by decide +kernel) (by kernel_rfl) (by kernel_rfl) ?_
  simp (disch := omega) only [SX0, SX1, SX2, SX3, SX4, SX5, SX6, SX7, SX8, SU0, SY0, SY1, Nat.reduceAdd, Nat.reduceMul, Nat.reduceSub, Nat.reduceLeDiff, Nat.reduceEqDiff, Nat.reduceLT, Nat.reduceBEq, ↓reduceIte, Int.reduceLE, Int.reduceLT, Int.reduceToNat, Int.reduceNeg, reduceCtorEq, Int.reduceEq, SF0, SF1, SF2, DLa0, DCg0, DCe0, DCa0, DCa1, DDb0, DBc0, DBa0, DPa0, DHb0, DHb1, DHa0, DPb0]
  refine qc_one TQ rfl ?_
  simp (disch := omega) only [SX0, SX1, SX2, SX3, SX4, SX5, SX6, SX7, SX8, SU0, SY0, SY1, Nat.reduceAdd, Nat.reduceMul, Nat.reduceSub, Nat.reduceLeDiff, Nat.reduceEqDiff, Nat.reduceLT, Nat.reduceBEq, ↓reduceIte, Int.reduceLE, Int.reduceLT, Int.reduceToNat, Int.reduceNeg, reduceCtorEq, Int.reduceEq, SF0, SF1, SF2, DLa0, DCg0, DCe0, DCa0, DCa1, DDb0, DBc0, DBa0, DPa0, DHb0, DHb1, DHa0, DPb0]
  refine qc_one TW rfl ?_
  simp (disch := omega) only [SX0, SX1, SX2, SX3, SX4, SX5, SX6, SX7, SX8, SU0, SY0, SY1, Nat.reduceAdd, Nat.reduceMul, Nat.reduceSub, Nat.reduceLeDiff, Nat.reduceEqDiff, Nat.reduceLT, Nat.reduceBEq, ↓reduceIte, Int.reduceLE, Int.reduceLT, Int.reduceToNat, Int.reduceNeg, reduceCtorEq, Int.reduceEq, SF0, SF1, SF2, DLa0, DCg0, DCe0, DCa0, DCa1, DDb0, DBc0, DBa0, DPa0, DHb0, DHb1, DHa0, DPb0]
  refine qc_one TP (by simp [freeL, AV.free, Plan.free]) ?_
  simp (disch := omega) only [SX0, SX1, SX2, SX3, SX4, SX5, SX6, SX7, SX8, SU0, SY0, SY1, Nat.reduceAdd, Nat.reduceMul, Nat.reduceSub, Nat.reduceLeDiff, Nat.reduceEqDiff, Nat.reduceLT, Nat.reduceBEq, ↓reduceIte, Int.reduceLE, Int.reduceLT, Int.reduceToNat, Int.reduceNeg, reduceCtorEq, Int.reduceEq, SF0, SF1, SF2, DLa0, DCg0, DCe0, DCa0, DCa1, DDb0, DBc0, DBa0, DPa0, DHb0, DHb1, DHa0, DPb0]
  refine qc_one GS (by simp [freeL, AV.free, Plan.free, Work.free, Piece.free]) ?_
  simp (disch := omega) only [SX0, SX1, SX2, SX3, SX4, SX5, SX6, SX7, SX8, SU0, SY0, SY1, Nat.reduceAdd, Nat.reduceMul, Nat.reduceSub, Nat.reduceLeDiff, Nat.reduceEqDiff, Nat.reduceLT, Nat.reduceBEq, ↓reduceIte, Int.reduceLE, Int.reduceLT, Int.reduceToNat, Int.reduceNeg, reduceCtorEq, Int.reduceEq, SF0, SF1, SF2, DLa0, DCg0, DCe0, DCa0, DCa1, DDb0, DBc0, DBa0, DPa0, DHb0, DHb1, DHa0, DPb0]
  refine acall_one TQ rfl rfl ?_
  simp (disch := omega) only [SX0, SX1, SX2, SX3, SX4, SX5, SX6, SX7, SX8, SU0, SY0, SY1, Nat.reduceAdd, Nat.reduceMul, Nat.reduceSub, Nat.reduceLeDiff, Nat.reduceEqDiff, Nat.reduceLT, Nat.reduceBEq, ↓reduceIte, Int.reduceLE, Int.reduceLT, Int.reduceToNat, Int.reduceNeg, reduceCtorEq, Int.reduceEq, SF0, SF1, SF2, DLa0, DCg0, DCe0, DCa0, DCa1, DDb0, DBc0, DBa0, DPa0, DHb0, DHb1, DHa0, DPb0]
  refine acall_one TW rfl rfl ?_
  simp (disch := omega) only [SX0, SX1, SX2, SX3, SX4, SX5, SX6, SX7, SX8, SU0, SY0, SY1, Nat.reduceAdd, Nat.reduceMul, Nat.reduceSub, Nat.reduceLeDiff, Nat.reduceEqDiff, Nat.reduceLT, Nat.reduceBEq, ↓reduceIte, Int.reduceLE, Int.reduceLT, Int.reduceToNat, Int.reduceNeg, reduceCtorEq, Int.reduceEq, SF0, SF1, SF2, DLa0, DCg0, DCe0, DCa0, DCa1, DDb0, DBc0, DBa0, DPa0, DHb0, DHb1, DHa0, DPb0]
  refine acall_one TP (by simp [freeL, AV.free, Plan.free]) (by simp [AV.free, Plan.free]) ?_
  simp (disch := omega) only [SX0, SX1, SX2, SX3, SX4, SX5, SX6, SX7, SX8, SU0, SY0, SY1, Nat.reduceAdd, Nat.reduceMul, Nat.reduceSub, Nat.reduceLeDiff, Nat.reduceEqDiff, Nat.reduceLT, Nat.reduceBEq, ↓reduceIte, Int.reduceLE, Int.reduceLT, Int.reduceToNat, Int.reduceNeg, reduceCtorEq, Int.reduceEq, SF0, SF1, SF2, DLa0, DCg0, DCe0, DCa0, DCa1, DDb0, DBc0, DBa0, DPa0, DHb0, DHb1, DHa0, DPb0]
  refine acall_one (goodPlanI_c q k p (by omega) (by omega)) (by simp [freeL, AV.free, Plan.free, Work.free, Piece.free]) rfl ?_
  simp (disch := omega) only [SX0, SX1, SX2, SX3, SX4, SX5, SX6, SX7, SX8, SU0, SY0, SY1, Nat.reduceAdd, Nat.reduceMul, Nat.reduceSub, Nat.reduceLeDiff, Nat.reduceEqDiff, Nat.reduceLT, Nat.reduceBEq, ↓reduceIte, Int.reduceLE, Int.reduceLT, Int.reduceToNat, Int.reduceNeg, reduceCtorEq, Int.reduceEq, SF0, SF1, SF2, DLa0, DCg0, DCe0, DCa0, DCa1, DDb0, DBc0, DBa0, DPa0, DHb0, DHb1, DHa0, DPb0]
  refine awp_drawA T_tt mixed (by decide +kernel) (by kernel_rfl) (by kernel_rfl) ?_
  simp (disch := omega) only [SX0, SX1, SX2, SX3, SX4, SX5, SX6, SX7, SX8, SU0, SY0, SY1, Nat.reduceAdd, Nat.reduceMul, Nat.reduceSub, Nat.reduceLeDiff, Nat.reduceEqDiff, Nat.reduceLT, Nat.reduceBEq, ↓reduceIte, Int.reduceLE, Int.reduceLT, Int.reduceToNat, Int.reduceNeg, reduceCtorEq, Int.reduceEq, SF0, SF1, SF2, DLa0, DCg0, DCe0, DCa0, DCa1, DDb0, DBc0, DBa0, DPa0, DHb0, DHb1, DHa0, DPb0]
  refine qc_one TQ rfl ?_
  simp (disch := omega) only [SX0, SX1, SX2, SX3, SX4, SX5, SX6, SX7, SX8, SU0, SY0, SY1, Nat.reduceAdd, Nat.reduceMul, Nat.reduceSub, Nat.reduceLeDiff, Nat.reduceEqDiff, Nat.reduceLT, Nat.reduceBEq, ↓reduceIte, Int.reduceLE, Int.reduceLT, Int.reduceToNat, Int.reduceNeg, reduceCtorEq, Int.reduceEq, SF0, SF1, SF2, DLa0, DCg0, DCe0, DCa0, DCa1, DDb0, DBc0, DBa0, DPa0, DHb0, DHb1, DHa0, DPb0]
  refine qc_one (eqPiece_c q (by omega)) rfl ?_
  simp (disch := omega) only [SX0, SX1, SX2, SX3, SX4, SX5, SX6, SX7, SX8, SU0, SY0, SY1, Nat.reduceAdd, Nat.reduceMul, Nat.reduceSub, Nat.reduceLeDiff, Nat.reduceEqDiff, Nat.reduceLT, Nat.reduceBEq, ↓reduceIte, Int.reduceLE, Int.reduceLT, Int.reduceToNat, Int.reduceNeg, reduceCtorEq, Int.reduceEq, SF0, SF1, SF2, DLa0, DCg0, DCe0, DCa0, DCa1, DDb0, DBc0, DBa0, DPa0, DHb0, DHb1, DHa0, DPb0]
  refine awp_drawA T_tt mixed (by decide +kernel) (by kernel_rfl) (by kernel_rfl) ?_
  simp (disch := omega) only [SX0, SX1, SX2, SX3, SX4, SX5, SX6, SX7, SX8, SU0, SY0, SY1, Nat.reduceAdd, Nat.reduceMul, Nat.reduceSub, Nat.reduceLeDiff, Nat.reduceEqDiff, Nat.reduceLT, Nat.reduceBEq, ↓reduceIte, Int.reduceLE, Int.reduceLT, Int.reduceToNat, Int.reduceNeg, reduceCtorEq, Int.reduceEq, SF0, SF1, SF2, DLa0, DCg0, DCe0, DCa0, DCa1, DDb0, DBc0, DBa0, DPa0, DHb0, DHb1, DHa0, DPb0]
  refine qc_one TW rfl ?_
  simp (disch := omega) only [SX0, SX1, SX2, SX3, SX4, SX5, SX6, SX7, SX8, SU0, SY0, SY1, Nat.reduceAdd, Nat.reduceMul, Nat.reduceSub, Nat.reduceLeDiff, Nat.reduceEqDiff, Nat.reduceLT, Nat.reduceBEq, ↓reduceIte, Int.reduceLE, Int.reduceLT, Int.reduceToNat, Int.reduceNeg, reduceCtorEq, Int.reduceEq, SF0, SF1, SF2, DLa0, DCg0, DCe0, DCa0, DCa1, DDb0, DBc0, DBa0, DPa0, DHb0, DHb1, DHa0, DPb0]
  refine qc_one (eqWork_c k (by omega)) rfl ?_
  simp (disch := omega) only [SX0, SX1, SX2, SX3, SX4, SX5, SX6, SX7, SX8, SU0, SY0, SY1, Nat.reduceAdd, Nat.reduceMul, Nat.reduceSub, Nat.reduceLeDiff, Nat.reduceEqDiff, Nat.reduceLT, Nat.reduceBEq, ↓reduceIte, Int.reduceLE, Int.reduceLT, Int.reduceToNat, Int.reduceNeg, reduceCtorEq, Int.reduceEq, SF0, SF1, SF2, DLa0, DCg0, DCe0, DCa0, DCa1, DDb0, DBc0, DBa0, DPa0, DHb0, DHb1, DHa0, DPb0]
  refine awp_drawA T_tt mixed (by decide +kernel) (by kernel_rfl) (by kernel_rfl) ?_
  simp (disch := omega) only [SX0, SX1, SX2, SX3, SX4, SX5, SX6, SX7, SX8, SU0, SY0, SY1, Nat.reduceAdd, Nat.reduceMul, Nat.reduceSub, Nat.reduceLeDiff, Nat.reduceEqDiff, Nat.reduceLT, Nat.reduceBEq, ↓reduceIte, Int.reduceLE, Int.reduceLT, Int.reduceToNat, Int.reduceNeg, reduceCtorEq, Int.reduceEq, SF0, SF1, SF2, DLa0, DCg0, DCe0, DCa0, DCa1, DDb0, DBc0, DBa0, DPa0, DHb0, DHb1, DHa0, DPb0]
  refine qc_one TP (by simp [freeL, AV.free, Plan.free]) ?_
  simp (disch := omega) only [SX0, SX1, SX2, SX3, SX4, SX5, SX6, SX7, SX8, SU0, SY0, SY1, Nat.reduceAdd, Nat.reduceMul, Nat.reduceSub, Nat.reduceLeDiff, Nat.reduceEqDiff, Nat.reduceLT, Nat.reduceBEq, ↓reduceIte, Int.reduceLE, Int.reduceLT, Int.reduceToNat, Int.reduceNeg, reduceCtorEq, Int.reduceEq, SF0, SF1, SF2, DLa0, DCg0, DCe0, DCa0, DCa1, DDb0, DBc0, DBa0, DPa0, DHb0, DHb1, DHa0, DPb0]
  refine qc_one (eqPlan_c p hpn) (by simp [freeL, AV.free, Plan.free]) ?_
  simp (disch := omega) only [SX0, SX1, SX2, SX3, SX4, SX5, SX6, SX7, SX8, SU0, SY0, SY1, Nat.reduceAdd, Nat.reduceMul, Nat.reduceSub, Nat.reduceLeDiff, Nat.reduceEqDiff, Nat.reduceLT, Nat.reduceBEq, ↓reduceIte, Int.reduceLE, Int.reduceLT, Int.reduceToNat, Int.reduceNeg, reduceCtorEq, Int.reduceEq, SF0, SF1, SF2, DLa0, DCg0, DCe0, DCa0, DCa1, DDb0, DBc0, DBa0, DPa0, DHb0, DHb1, DHa0, DPb0]
  exact fin_val ⟨rfl, rfl⟩
end Go.Pc
