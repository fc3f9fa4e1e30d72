/- Marks written into rows of flat things that lie in memory of their own, and held there. Printed by gen_marks.py. -/
import Derived.Test.YtkcpcmobmalijaaTa
import Derived.Test.YtkcpcmobmalijaaRy
import Derived.Test.YtkcpcmobmalijaaHa
import Derived.Test.YtkcpcmobmalijaaLa
import Derived.Test.YtkcpcmobmalijaaHb
set_option linter.unusedSimpArgs false
set_option linter.unusedVariables false
namespace Go.Pc
open Go Go.Proofs

def cell1 (x : Int) : List AV := [.val (.int .i64 x)]
theorem Box.exact (q : Box) : q.cs.all AV.exact = true := rfl
theorem Place.exact (q : Place) : q.cs.all AV.exact = true := rfl
theorem cell1.exact (q : Int) : (cell1 q).all AV.exact = true := rfl

def Pane.mk' (k : Int) : Pane := ⟨k, (k + 1), decide (((k + 1 + 1)).tmod 3 = 0), (k + 1 + 1 + 1)⟩

theorem e_markPaneS : Enters Try.prog 75 := enters_of Try.func75 (by kernel_rfl) (by kernel_rfl)
set_option maxRecDepth 8000 in
set_option maxHeartbeats 2000000 in
theorem markPaneS_f (l : List Pane) (hl : l.length ≤ 1048576) (k : Int) (hk : 0 ≤ k ∧ k ≤ 1125899906842624) (v : Value) (S : Nat → Prop) : ACalls Try.prog 75 [.val v, .val (.int .i64 k)] [.forest S [(v, .sl (l.map Pane.cs))]] [0] (fun r L => r = .val (.int .i64 (k + 4 * l.length)) ∧ ∃ S', L = [.forest S' [(v, .sl ((marks Pane.mk' 4 l.length k).map Pane.cs))]]) := by
  refine acalls_tm T_tt Try.func75 rfl e_markPaneS 41 rfl (W8 _ _ .any .any .any .any .any .any (W8 .any .any .any .any .any .any .any .any (W8 .any .any .any .any .any .any .any .any (W8 .any .any .any .any .any .any .any .any (W8 .any .any .any .any .any .any .any .any [.any, .any, .any]))))) rfl (rv := [.tmp 4]) rfl ?_
  by_cases h0 : l = []
  · subst h0
    refine awp_wk (wk_empty 0 0 rfl rfl) (sx_sound (bl := []) T_tt _ _ _ ?_)
    simp (disch := omega) only [SX0, SX1, SX2, SX3, SX4, SX5, SX6, SX7, SX8, SU0, SY0, SY1, Nat.reduceAdd, Nat.reduceMul, Nat.reduceSub, Nat.reduceLeDiff, Nat.reduceEqDiff, Nat.reduceLT, Nat.reduceBEq, ↓reduceIte, Int.reduceLE, Int.reduceLT, Int.reduceToNat, Int.reduceNeg, reduceCtorEq, Int.reduceEq, SF0, SF1, SF2, DLa0, DCg0, DCe0, DCe1, DCe2, DDb0, DBc0, DBc1, DHa0, DHb0, DHb1]
    with_reducible refine awp_loop_h 0 0 (fun (i : Nat) => []) (fun i => [.forest S [(v, .sl [])]]) (fun i => i = 0) (fun i => 0) 0 rfl ?_ (fun i hi => sx_sound (bl := []) T_tt _ _ _ ?_)
    · simp (disch := omega) only [SX0, SX1, SX2, SX3, SX4, SX5, SX6, SX7, SX8, SU0, SY0, SY1, Nat.reduceAdd, Nat.reduceMul, Nat.reduceSub, Nat.reduceLeDiff, Nat.reduceEqDiff, Nat.reduceLT, Nat.reduceBEq, ↓reduceIte, Int.reduceLE, Int.reduceLT, Int.reduceToNat, Int.reduceNeg, reduceCtorEq, Int.reduceEq, SF0, SF1, SF2, DLa0, DCg0, DCe0, DCe1, DCe2, DDb0, DBc0, DBc1, DHa0, DHb0, DHb1]
      (refine wk_le ?_ ?_ ?_; (focus (simp [W8, leTm, leAV, AV.under, underL]; done)); (focus (simp [leL, OB.under, underL, AV.under]; done)); (focus (simp; done)))
    simp (disch := omega) only [SX0, SX1, SX2, SX3, SX4, SX5, SX6, SX7, SX8, SU0, SY0, SY1, Nat.reduceAdd, Nat.reduceMul, Nat.reduceSub, Nat.reduceLeDiff, Nat.reduceEqDiff, Nat.reduceLT, Nat.reduceBEq, ↓reduceIte, Int.reduceLE, Int.reduceLT, Int.reduceToNat, Int.reduceNeg, reduceCtorEq, Int.reduceEq, SF0, SF1, SF2, DLa0, DCg0, DCe0, DCe1, DCe2, DDb0, DBc0, DBc1, DHa0, DHb0, DHb1]
    refine br_dec (fun h => by simp at h) (fun h => ?_)
    simp (disch := omega) only [SX0, SX1, SX2, SX3, SX4, SX5, SX6, SX7, SX8, SU0, SY0, SY1, Nat.reduceAdd, Nat.reduceMul, Nat.reduceSub, Nat.reduceLeDiff, Nat.reduceEqDiff, Nat.reduceLT, Nat.reduceBEq, ↓reduceIte, Int.reduceLE, Int.reduceLT, Int.reduceToNat, Int.reduceNeg, reduceCtorEq, Int.reduceEq, SF0, SF1, SF2, DLa0, DCg0, DCe0, DCe1, DCe2, DDb0, DBc0, DBc1, DHa0, DHb0, DHb1]
    exact fin_zero (.val (.int .i64 k)) (.forest S [(v, .sl [])]) ⟨by simp, S, rfl⟩ rfl rfl (by simp) (by simp)
  have hm : (marks Pane.mk' 4 l.length k).length = l.length := marks_len _ _ _ _
  refine awp_open 0 0 4 rfl (exact_map _ Pane.exact l) (rows_len _ 4 (fun q => rfl) l) (by rw [List.length_map]; exact List.length_pos_iff.2 h0) rfl (sx_sound (bl := []) T_tt _ _ _ ?_)
  simp (disch := omega) only [SX0, SX1, SX2, SX3, SX4, SX5, SX6, SX7, SX8, SU0, SY0, SY1, Nat.reduceAdd, Nat.reduceMul, Nat.reduceSub, Nat.reduceLeDiff, Nat.reduceEqDiff, Nat.reduceLT, Nat.reduceBEq, ↓reduceIte, Int.reduceLE, Int.reduceLT, Int.reduceToNat, Int.reduceNeg, reduceCtorEq, Int.reduceEq, SF0, SF1, SF2, DLa0, DCg0, DCe0, DCe1, DCe2, DDb0, DBc0, DBc1, DHa0, DHb0, DHb1, SX0]
  with_reducible refine awp_loop_h 6 (43 - 6) (fun (i : Nat) => [(1, .val (.int .i64 (k + 4 * i))), (5, .val (.int .i64 i))]) (fun i => [.vec 4 (mixR ((marks Pane.mk' 4 l.length k).map Pane.cs) (l.map Pane.cs) i)]) (fun i => i ≤ l.length) (fun i => l.length - i) 0 (Nat.zero_le _) ?_ (fun i hi => sx_sound (bl := []) T_tt _ _ _ ?_)
  · simp (disch := omega) only [SX0, SX1, SX2, SX3, SX4, SX5, SX6, SX7, SX8, SU0, SY0, SY1, Nat.reduceAdd, Nat.reduceMul, Nat.reduceSub, Nat.reduceLeDiff, Nat.reduceEqDiff, Nat.reduceLT, Nat.reduceBEq, ↓reduceIte, Int.reduceLE, Int.reduceLT, Int.reduceToNat, Int.reduceNeg, reduceCtorEq, Int.reduceEq, SF0, SF1, SF2, DLa0, DCg0, DCe0, DCe1, DCe2, DDb0, DBc0, DBc1, DHa0, DHb0, DHb1]
    (refine wk_le ?_ ?_ ?_; (focus (simp [W8, leTm, leAV, AV.under, underL, mixR_zero]; done)); (focus (simp [leL, OB.under, underL, AV.under, mixR_zero]; done)); (focus (simp; done)))
  simp (disch := omega) only [SX0, SX1, SX2, SX3, SX4, SX5, SX6, SX7, SX8, SU0, SY0, SY1, Nat.reduceAdd, Nat.reduceMul, Nat.reduceSub, Nat.reduceLeDiff, Nat.reduceEqDiff, Nat.reduceLT, Nat.reduceBEq, ↓reduceIte, Int.reduceLE, Int.reduceLT, Int.reduceToNat, Int.reduceNeg, reduceCtorEq, Int.reduceEq, SF0, SF1, SF2, DLa0, DCg0, DCe0, DCe1, DCe2, DDb0, DBc0, DBc1, DHa0, DHb0, DHb1]
  refine br_dec (fun h1 => ?_) (fun h1 => ?_)
  · obtain ⟨q, hq⟩ := get_lt (l := l) (i := i) (by omega)
    have hg : (mixR ((marks Pane.mk' 4 l.length k).map Pane.cs) (l.map Pane.cs) i)[i]? = some [.val (.int .i64 q.W), .val (.int .i64 q.H), .val (.bool q.Tu), .val (.int .i64 q.Ki)] := by rw [mixR_get (by simp [hm])]; simp [hq, Pane.cs]
    have hset : ∀ x : List AV, ((mixR ((marks Pane.mk' 4 l.length k).map Pane.cs) (l.map Pane.cs) i).set i x)[i]? = some x := fun x => List.getElem?_set_self (by rw [mixR_len (by simp [hm])]; simp; omega)
    have hnext := mixR_set (m := ((marks Pane.mk' 4 l.length k).map Pane.cs)) (l := (l.map Pane.cs)) (by simp [hm]) (i := i) (x := Pane.cs (Pane.mk' (k + 4 * i))) (by rw [List.getElem?_map, marks_get _ _ _ (by omega)]; rfl)
    simp only [Pane.mk', Pane.cs] at hnext
    have h2t : ((i : Int) < (l.length : Int)) = True := eq_true h1
    have e : (k + 4 * (i : Int) + 1 + 1 + 1 + 1 : Int) = k + 4 * ((i + 1 : Nat) : Int) := by omega
    simp (disch := omega) only [SX0, SX1, SX2, SX3, SX4, SX5, SX6, SX7, SX8, SU0, SY0, SY1, Nat.reduceAdd, Nat.reduceMul, Nat.reduceSub, Nat.reduceLeDiff, Nat.reduceEqDiff, Nat.reduceLT, Nat.reduceBEq, ↓reduceIte, Int.reduceLE, Int.reduceLT, Int.reduceToNat, Int.reduceNeg, reduceCtorEq, Int.reduceEq, SF0, SF1, SF2, DLa0, DCg0, DCe0, DCe1, DCe2, DDb0, DBc0, DBc1, DHa0, DHb0, DHb1, hg, hset, List.set_set, h2t]
    refine ⟨i + 1, by omega, by omega, ?_⟩
    (refine wk_le ?_ ?_ ?_; (focus (simp [W8, leTm, leAV, AV.under, underL, Pane.mk', Pane.cs, hnext, e]; done)); (focus (simp [leL, OB.under, underL, AV.under, Pane.mk', Pane.cs, hnext, e]; done)); (focus (simp; done)))
  · have hf : mixR ((marks Pane.mk' 4 l.length k).map Pane.cs) (l.map Pane.cs) i = ((marks Pane.mk' 4 l.length k).map Pane.cs) := mixR_full (by simp [hm]) (by simp; omega)
    have hi : i = l.length := by omega
    simp (disch := omega) only [SX0, SX1, SX2, SX3, SX4, SX5, SX6, SX7, SX8, SU0, SY0, SY1, Nat.reduceAdd, Nat.reduceMul, Nat.reduceSub, Nat.reduceLeDiff, Nat.reduceEqDiff, Nat.reduceLT, Nat.reduceBEq, ↓reduceIte, Int.reduceLE, Int.reduceLT, Int.reduceToNat, Int.reduceNeg, reduceCtorEq, Int.reduceEq, SF0, SF1, SF2, DLa0, DCg0, DCe0, DCe1, DCe2, DDb0, DBc0, DBc1, DHa0, DHb0, DHb1]
    refine ⟨_, rfl, by simp [mixR_len, hm], by rw [hf]; exact exact_map _ Pane.exact _, fun S' => ?_⟩
    simp (disch := omega) only [SX0, SX1, SX2, SX3, SX4, SX5, SX6, SX7, SX8, SU0, SY0, SY1, Nat.reduceAdd, Nat.reduceMul, Nat.reduceSub, Nat.reduceLeDiff, Nat.reduceEqDiff, Nat.reduceLT, Nat.reduceBEq, ↓reduceIte, Int.reduceLE, Int.reduceLT, Int.reduceToNat, Int.reduceNeg, reduceCtorEq, Int.reduceEq, SF0, SF1, SF2, DLa0, DCg0, DCe0, DCe1, DCe2, DDb0, DBc0, DBc1, DHa0, DHb0, DHb1, SX0, hf]
    exact fin_zero (.val (.int .i64 (k + 4 * i))) (.forest S' [(v, .sl ((marks Pane.mk' 4 l.length k).map Pane.cs))]) ⟨by rw [hi], S', rfl⟩ rfl rfl (by simp) (by simp)

def Box.mk' (k : Int) : Box := ⟨k, (k + 1), (k + 1 + 1), (k + 1 + 1 + 1)⟩

def Place.mk' (k : Int) : Place := ⟨k, decide (((k + 1)).tmod 3 = 0), ⟨(k + 1 + 1), (k + 1 + 1 + 1), (k + 1 + 1 + 1 + 1), (k + 1 + 1 + 1 + 1 + 1)⟩⟩

end Go.Pc
