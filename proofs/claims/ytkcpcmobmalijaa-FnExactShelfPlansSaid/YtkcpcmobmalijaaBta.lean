/- Pieces of a row exchanged: the library's swapRange and rotate. -/
import Derived.Test.YtkcpcmobmalijaaBsa
set_option linter.unusedSimpArgs false
set_option linter.unusedVariables false
namespace Go.Pc
open Go Go.Proofs

theorem two_get1 (X Y Z : List Int) (u v : Int) : (X ++ u :: (Y ++ v :: Z))[X.length]? = some u := by simp
theorem two_get2 (X Y Z : List Int) (u v : Int) : (X ++ u :: (Y ++ v :: Z))[X.length + 1 + Y.length]? = some v := by
  rw [List.getElem?_append_right (by omega), show X.length + 1 + Y.length - X.length = Y.length + 1 by omega, List.getElem?_cons_succ, List.getElem?_append_right (by omega), Nat.sub_self]
  rfl
theorem two_set (X Y Z : List Int) (u v : Int) : ((X ++ u :: (Y ++ v :: Z)).set X.length v).set (X.length + 1 + Y.length) u = X ++ v :: (Y ++ u :: Z) := by
  rw [List.set_append_right _ _ (Nat.le_refl _), Nat.sub_self, List.set_cons_zero, List.set_append_right _ _ (by omega), show X.length + 1 + Y.length - X.length = Y.length + 1 by omega, List.set_cons_succ, List.set_append_right _ _ (Nat.le_refl _), Nat.sub_self, List.set_cons_zero]

/-- Two pieces, their first numbers exchanged. -/
def swq (A U M V B : List Int) (i : Nat) : List Int := (A ++ V.take i) ++ (U.drop i ++ (M ++ (U.take i ++ (V.drop i ++ B))))
theorem swq_zero (A U M V B : List Int) : swq A U M V B 0 = A ++ (U ++ (M ++ (V ++ B))) := by simp [swq]
theorem swq_all {A U M V B : List Int} (h : V.length = U.length) : swq A U M V B U.length = A ++ (V ++ (M ++ (U ++ B))) := by
  have h1 : V.take U.length = V := List.take_of_length_le (by omega)
  have h2 : V.drop U.length = [] := List.drop_of_length_le (by omega)
  simp [swq, h1, h2]
theorem swq_step {A U M V B : List Int} {i : Nat} {u v : Int} (hu : U[i]? = some u) (hv : V[i]? = some v) (hl : V.length = U.length) :
    (swq A U M V B i)[A.length + i]? = some u ∧ (swq A U M V B i)[A.length + U.length + M.length + i]? = some v ∧ ((swq A U M V B i).set (A.length + i) v).set (A.length + U.length + M.length + i) u = swq A U M V B (i + 1) := by
  have hi := (List.getElem?_eq_some_iff.1 hu).1
  have e0 : swq A U M V B i = (A ++ V.take i) ++ u :: ((U.drop (i + 1) ++ (M ++ U.take i)) ++ v :: (V.drop (i + 1) ++ B)) := by
    unfold swq
    rw [drop_consB hu, drop_consB hv]
    simp
  have e1 : swq A U M V B (i + 1) = (A ++ V.take i) ++ v :: ((U.drop (i + 1) ++ (M ++ U.take i)) ++ u :: (V.drop (i + 1) ++ B)) := by
    unfold swq
    rw [List.take_add_one, hv, List.take_add_one, hu]
    simp
  have l1 : (A ++ V.take i).length = A.length + i := by simp; omega
  have l2 : (A ++ V.take i).length + 1 + (U.drop (i + 1) ++ (M ++ U.take i)).length = A.length + U.length + M.length + i := by simp; omega
  rw [e0, e1]
  refine ⟨?_, ?_, ?_⟩
  · rw [← l1]; exact two_get1 _ _ _ _ _
  · rw [← l2]; exact two_get2 _ _ _ _ _
  · rw [← l2, ← l1]; exact two_set _ _ _ _ _
theorem swq_len {A U M V B : List Int} (i : Nat) (hl : V.length = U.length) (hi : i ≤ U.length) : (swq A U M V B i).length = A.length + U.length + M.length + V.length + B.length := by
  simp [swq]; omega

theorem e_swapRange : Enters Try.prog 166 := enters_of Try.func166 (by kernel_rfl) (by kernel_rfl)
set_option maxRecDepth 8000 in
set_option maxHeartbeats 2000000 in
theorem swapRange_c (f : FuncId) (cs : List AV) (hcs : ∀ m, underL m cs = true) (hfr : freeL cs = true) (A U M V B : List Int) (hl : V.length = U.length) (N a b n : Nat) (ha : a = A.length) (hb : b = A.length + U.length + M.length) (hn : n = U.length) (hN : N = A.length + U.length + M.length + V.length + B.length) (hN2 : N < 2 ^ 40) :
    ACalls Try.prog 166 [.os 0 1 0 N, .val (.int .i64 a), .val (.int .i64 b), .val (.int .i64 n), .fn f [.ptr 1 0]] [.vec 1 (ints (A ++ (U ++ (M ++ (V ++ B))))), .cells cs] [0, 1] (fun r L => r = .tup [] ∧ L = [.vec 1 (ints (A ++ (V ++ (M ++ (U ++ B))))), .cells cs]) := by
  have hren : ∀ f, renL f cs = cs := fun f => freeL_rend f hfr
  rw [← swq_zero, ← swq_all hl]
  refine acalls_tm T_tt Try.func166 rfl e_swapRange 33 rfl (W8 _ _ _ _ _ .any .any .any (W8 .any .any .any .any .any .any .any .any (W8 .any .any .any .any .any .any .any .any (W8 .any .any .any .any .any .any .any .any [.any, .any, .any, .any, .any, .any])))) rfl (rv := []) rfl (sx_sound (bl := []) T_tt _ _ _ ?_)
  simp (disch := omega) only [SX0, SX1, SX2, SX3, SX4, SX5, SX6, SX7, SX8, SU0, SY0, SY1, Nat.reduceAdd, Nat.reduceMul, Nat.reduceSub, Nat.reduceLeDiff, Nat.reduceEqDiff, Nat.reduceLT, Nat.reduceBEq, ↓reduceIte, Int.reduceLE, Int.reduceLT, Int.reduceToNat, Int.reduceNeg, reduceCtorEq, Int.reduceEq, SF0, SF1, SF2, DHb0, DHb1, DHa0, DCg0, DCe0, DCe1, DCe2, DDb0, DBc0, DBc1, DDe0, DAlh0, DAlv0]
  with_reducible refine awp_loop_h (G := Nat) 11 27 (fun i => [(10, .val (.int .i64 i))]) (fun i => [.vec 1 (ints (swq A U M V B i)), .cells cs]) (fun i => i ≤ n) (fun i => n - i) 0 (Nat.zero_le _) ?_ (fun i hi => ?_)
  · simp (disch := omega) only [SX0, SX1, SX2, SX3, SX4, SX5, SX6, SX7, SX8, SU0, SY0, SY1, Nat.reduceAdd, Nat.reduceMul, Nat.reduceSub, Nat.reduceLeDiff, Nat.reduceEqDiff, Nat.reduceLT, Nat.reduceBEq, ↓reduceIte, Int.reduceLE, Int.reduceLT, Int.reduceToNat, Int.reduceNeg, reduceCtorEq, Int.reduceEq, SF0, SF1, SF2, DHb0, DHb1, DHa0, DCg0, DCe0, DCe1, DCe2, DDb0, DBc0, DBc1, DDe0, DAlh0, DAlv0]
    (refine wk_le ?_ ?_ ?_; (focus (simp [W8, leTm, leAV, AV.under, underL, ints, hcs]; done)); (focus (simp [leL, OB.under, underL, AV.under, ints, hcs]; done)); (focus (simp; done)))
  have hsl := swq_len (A := A) (M := M) (B := B) i hl (by omega)
  refine sx_sound (bl := []) T_tt _ _ _ ?_
  simp (disch := omega) only [SX0, SX1, SX2, SX3, SX4, SX5, SX6, SX7, SX8, SU0, SY0, SY1, Nat.reduceAdd, Nat.reduceMul, Nat.reduceSub, Nat.reduceLeDiff, Nat.reduceEqDiff, Nat.reduceLT, Nat.reduceBEq, ↓reduceIte, Int.reduceLE, Int.reduceLT, Int.reduceToNat, Int.reduceNeg, reduceCtorEq, Int.reduceEq, SF0, SF1, SF2, DHb0, DHb1, DHa0, DCg0, DCe0, DCe1, DCe2, DDb0, DBc0, DBc1, DDe0, DAlh0, DAlv0]
  refine br_dec (fun h1 => ?_) (fun h1 => ?_)
  · obtain ⟨u, hu⟩ := get_lt (l := U) (i := i) (by omega)
    obtain ⟨v, hv⟩ := get_lt (l := V) (i := i) (by omega)
    obtain ⟨g1, g2, g3⟩ := swq_step (A := A) (M := M) (B := B) hu hv hl
    have ea : ((a : Int) + (i : Int)) = ((A.length + i : Nat) : Int) := by omega
    have eb : ((b : Int) + (i : Int)) = ((A.length + U.length + M.length + i : Nat) : Int) := by omega
    simp (disch := omega) only [SX0, SX1, SX2, SX3, SX4, SX5, SX6, SX7, SX8, SU0, SY0, SY1, Nat.reduceAdd, Nat.reduceMul, Nat.reduceSub, Nat.reduceLeDiff, Nat.reduceEqDiff, Nat.reduceLT, Nat.reduceBEq, ↓reduceIte, Int.reduceLE, Int.reduceLT, Int.reduceToNat, Int.reduceNeg, reduceCtorEq, Int.reduceEq, SF0, SF1, SF2, DHb0, DHb1, DHa0, DCg0, DCe0, DCe1, DCe2, DDb0, DBc0, DBc1, DDe0, DAlh0, DAlv0]
    refine awp_floatG (bl := []) T_tt mixed [0, 1] [0, 1, 2, 3, 4, 5, 6, 7, 8, 9, 10, 11, 12, 13, 14, 15, 16, 17, 18, 19, 20, 22] [0, 1, 2, 3, 4, 5, 6, 7, 8, 9, 10, 11, 12, 13, 14, 15, 16, 17, 18, 19, 20] [⟨21, [0, 1], [(0, .f 16), (1, .f 17), (2, .f 18), (3, .f 19), (8, .f 24), (9, .f 25), (10, .f 26), (11, .f 27), (12, .f 28), (13, .f 29), (14, .f 30), (15, .f 31), (16, .f 32), (17, .f 33), (18, .f 34), (19, .f 35), (20, .f 36)], [22], [(4, .f 20), (5, .f 21), (6, .f 22), (7, .f 23)]⟩, ⟨23, [0, 1], [(4, .f 20), (5, .f 21), (6, .f 22), (7, .f 23), (22, .f 37)], [], []⟩] [] (by kernel_rfl) (by kernel_rfl) ?_
    have hs3 : ((List.map (fun x => [AV.val (.int .i64 x)]) (swq A U M V B i)).set (A.length + i) [AV.val (.int .i64 v)]).set (A.length + U.length + M.length + i) [AV.val (.int .i64 u)] = ints (swq A U M V B (i + 1)) := by
      rw [← g3]; simp [ints, List.map_set]
    have hs2 : ((List.map (fun x => [AV.val (.int .i64 x)]) (swq A U M V B i)).set (A.length + i) [AV.val (.int .i64 v)])[A.length + U.length + M.length + i]? = some [AV.val (.int .i64 v)] := by
      rw [List.getElem?_set_ne (by omega), List.getElem?_map, g2]; rfl
    have hln : ((List.map (fun x => [AV.val (.int .i64 x)]) (swq A U M V B i)).set (A.length + i) [AV.val (.int .i64 v)]).length = N := by simp; omega
    repeat (first | refine req (by omega) ?_ | simp (disch := omega) only [SX0, SX1, SX2, SX3, SX4, SX5, SX6, SX7, SX8, SU0, SY0, SY1, Nat.reduceAdd, Nat.reduceMul, Nat.reduceSub, Nat.reduceLeDiff, Nat.reduceEqDiff, Nat.reduceLT, Nat.reduceBEq, ↓reduceIte, Int.reduceLE, Int.reduceLT, Int.reduceToNat, Int.reduceNeg, reduceCtorEq, Int.reduceEq, SF0, SF1, SF2, DHb0, DHb1, DHa0, DCg0, DCe0, DCe1, DCe2, DDb0, DBc0, DBc1, DDe0, DAlh0, DAlv0, SX0, ea, eb, g1, g2, hs2, hs3])
    refine ⟨i + 1, by omega, by omega, ?_⟩
    (refine wk_le ?_ ?_ ?_; (focus (simp [W8, leTm, leAV, AV.under, underL, ints, hcs]; done)); (focus (simp [leL, OB.under, underL, AV.under, ints, hcs]; done)); (focus (simp; done)))
  · have hi' : i = U.length := by omega
    rw [hi']
    simp (disch := omega) only [SX0, SX1, SX2, SX3, SX4, SX5, SX6, SX7, SX8, SU0, SY0, SY1, Nat.reduceAdd, Nat.reduceMul, Nat.reduceSub, Nat.reduceLeDiff, Nat.reduceEqDiff, Nat.reduceLT, Nat.reduceBEq, ↓reduceIte, Int.reduceLE, Int.reduceLT, Int.reduceToNat, Int.reduceNeg, reduceCtorEq, Int.reduceEq, SF0, SF1, SF2, DHb0, DHb1, DHa0, DCg0, DCe0, DCe1, DCe2, DDb0, DBc0, DBc1, DDe0, DAlh0, DAlv0]
    exact fin_ks [0, 1] (.tup []) [.vec 1 (ints (swq A U M V B U.length)), .cells cs] ⟨rfl, rfl⟩ rfl (by simp [keepL, nameK, OB.ren, ints, freeL_ren' _ _ hfr]) (by simp) (by simp) (by simp)

theorem e_rotateC : Enters Try.prog 165 := enters_of Try.func165 (by kernel_rfl) (by kernel_rfl)
set_option maxRecDepth 8000 in
set_option maxHeartbeats 4000000 in
theorem rotateC_c (f : FuncId) (cs : List AV) (hcs : ∀ m, underL m cs = true) (hfr : freeL cs = true) (A U V B : List Int) (hU : 0 < U.length) (hV : 0 < V.length) (N a m b : Nat) (ha : a = A.length) (hm : m = A.length + U.length) (hb : b = A.length + U.length + V.length) (hN : N = A.length + U.length + V.length + B.length) (hN2 : N < 2 ^ 40) :
    ACalls Try.prog 165 [.os 0 1 0 N, .val (.int .i64 a), .val (.int .i64 m), .val (.int .i64 b), .fn f [.ptr 1 0]] [.vec 1 (ints (A ++ (U ++ (V ++ B)))), .cells cs] [0, 1] (fun r L => r = .tup [] ∧ L = [.vec 1 (ints (A ++ (V ++ (U ++ B)))), .cells cs]) := by
  have hren : ∀ f, renL f cs = cs := fun f => freeL_rend f hfr
  refine acalls_tm T_tt Try.func165 rfl e_rotateC 53 rfl (W8 _ _ _ _ _ .any .any .any (W8 .any .any .any .any .any .any .any .any (W8 .any .any .any .any .any .any .any .any (W8 .any .any .any .any .any .any .any .any (W8 .any .any .any .any .any .any .any .any (W8 .any .any .any .any .any .any .any .any (W8 .any .any .any .any .any .any .any .any [.any, .any]))))))) rfl (rv := []) rfl (sx_sound (bl := []) T_tt _ _ _ ?_)
  simp (disch := omega) only [SX0, SX1, SX2, SX3, SX4, SX5, SX6, SX7, SX8, SU0, SY0, SY1, Nat.reduceAdd, Nat.reduceMul, Nat.reduceSub, Nat.reduceLeDiff, Nat.reduceEqDiff, Nat.reduceLT, Nat.reduceBEq, ↓reduceIte, Int.reduceLE, Int.reduceLT, Int.reduceToNat, Int.reduceNeg, reduceCtorEq, Int.reduceEq, SF0, SF1, SF2, DHb0, DHb1, DHa0, DCg0, DCe0, DCe1, DCe2, DDb0, DBc0, DBc1, DDe0, DAlh0, DAlv0]
  with_reducible refine awp_loop_h (G := List Int × List Int × List Int × List Int) 12 46 (fun g => [(10, .val (.int .i64 g.2.1.length)), (11, .val (.int .i64 g.2.2.1.length))]) (fun g => [.vec 1 (ints (g.1 ++ (g.2.1 ++ (g.2.2.1 ++ g.2.2.2)))), .cells cs]) (fun g => g.1 ++ (g.2.2.1 ++ (g.2.1 ++ g.2.2.2)) = A ++ (V ++ (U ++ B)) ∧ g.1.length + g.2.1.length = m ∧ 0 < g.2.1.length ∧ 0 < g.2.2.1.length ∧ g.2.2.1.length + g.2.2.2.length = V.length + B.length) (fun g => g.2.1.length + g.2.2.1.length) (A, U, V, B) ⟨rfl, hm.symm, hU, hV, rfl⟩ ?_ (fun g hg => ?_)
  · have e1 : ((m : Int) - (a : Int)) = (U.length : Int) := by omega
    have e2 : ((b : Int) - (m : Int)) = (V.length : Int) := by omega
    simp (disch := omega) only [SX0, SX1, SX2, SX3, SX4, SX5, SX6, SX7, SX8, SU0, SY0, SY1, Nat.reduceAdd, Nat.reduceMul, Nat.reduceSub, Nat.reduceLeDiff, Nat.reduceEqDiff, Nat.reduceLT, Nat.reduceBEq, ↓reduceIte, Int.reduceLE, Int.reduceLT, Int.reduceToNat, Int.reduceNeg, reduceCtorEq, Int.reduceEq, SF0, SF1, SF2, DHb0, DHb1, DHa0, DCg0, DCe0, DCe1, DCe2, DDb0, DBc0, DBc1, DDe0, DAlh0, DAlv0, e1, e2]
    (refine wk_le ?_ ?_ ?_; (focus (simp [W8, leTm, leAV, AV.under, underL, ints, hcs, e1, e2]; done)); (focus (simp [leL, OB.under, underL, AV.under, ints, hcs, e1, e2]; done)); (focus (simp; done)))
  obtain ⟨A', U', V', B'⟩ := g
  simp only at hg
  obtain ⟨q1, q2, q3, q4, q5⟩ := hg
  refine sx_sound (bl := []) T_tt _ _ _ ?_
  simp (disch := omega) only [SX0, SX1, SX2, SX3, SX4, SX5, SX6, SX7, SX8, SU0, SY0, SY1, Nat.reduceAdd, Nat.reduceMul, Nat.reduceSub, Nat.reduceLeDiff, Nat.reduceEqDiff, Nat.reduceLT, Nat.reduceBEq, ↓reduceIte, Int.reduceLE, Int.reduceLT, Int.reduceToNat, Int.reduceNeg, reduceCtorEq, Int.reduceEq, SF0, SF1, SF2, DHb0, DHb1, DHa0, DCg0, DCe0, DCe1, DCe2, DDb0, DBc0, DBc1, DDe0, DAlh0, DAlv0]
  refine br_ndec (fun h1 => ?_) (fun h1 => ?_)
  · simp (disch := omega) only [SX0, SX1, SX2, SX3, SX4, SX5, SX6, SX7, SX8, SU0, SY0, SY1, Nat.reduceAdd, Nat.reduceMul, Nat.reduceSub, Nat.reduceLeDiff, Nat.reduceEqDiff, Nat.reduceLT, Nat.reduceBEq, ↓reduceIte, Int.reduceLE, Int.reduceLT, Int.reduceToNat, Int.reduceNeg, reduceCtorEq, Int.reduceEq, SF0, SF1, SF2, DHb0, DHb1, DHa0, DCg0, DCe0, DCe1, DCe2, DDb0, DBc0, DBc1, DDe0, DAlh0, DAlv0]
    refine br_dec (fun h2 => ?_) (fun h2 => ?_)
    · -- the left one is the longer one
      have hS := swapRange_c f cs hcs hfr A' (U'.take V'.length) (U'.drop V'.length) V' B' (by rw [List.length_take]; omega) N A'.length m V'.length rfl (by simp; omega) (by rw [List.length_take]; omega) (by simp; omega) hN2
      have eU : U'.take V'.length ++ (U'.drop V'.length ++ (V' ++ B')) = U' ++ (V' ++ B') := by rw [← List.append_assoc, List.take_append_drop]
      rw [eU] at hS
      have e1 : ((m : Int) - (U'.length : Int)) = (A'.length : Int) := by omega
      simp (disch := omega) only [SX0, SX1, SX2, SX3, SX4, SX5, SX6, SX7, SX8, SU0, SY0, SY1, Nat.reduceAdd, Nat.reduceMul, Nat.reduceSub, Nat.reduceLeDiff, Nat.reduceEqDiff, Nat.reduceLT, Nat.reduceBEq, ↓reduceIte, Int.reduceLE, Int.reduceLT, Int.reduceToNat, Int.reduceNeg, reduceCtorEq, Int.reduceEq, SF0, SF1, SF2, DHb0, DHb1, DHa0, DCg0, DCe0, DCe1, DCe2, DDb0, DBc0, DBc1, DDe0, DAlh0, DAlv0, e1]
      refine acall_own hS [0, 1] [] (by simp [keepL, nameIn, OB.ren, freeL_ren' _ _ hfr, ints]) (by decide) (by decide) (by rfl) (by simp [AV.ren, nameIn, renL]) ?_
      rintro _ _ ⟨rfl, rfl⟩
      have e2 : ((U'.length : Int) - (V'.length : Int)) = ((U'.drop V'.length).length : Int) := by simp; omega
      simp (disch := omega) only [SX0, SX1, SX2, SX3, SX4, SX5, SX6, SX7, SX8, SU0, SY0, SY1, Nat.reduceAdd, Nat.reduceMul, Nat.reduceSub, Nat.reduceLeDiff, Nat.reduceEqDiff, Nat.reduceLT, Nat.reduceBEq, ↓reduceIte, Int.reduceLE, Int.reduceLT, Int.reduceToNat, Int.reduceNeg, reduceCtorEq, Int.reduceEq, SF0, SF1, SF2, DHb0, DHb1, DHa0, DCg0, DCe0, DCe1, DCe2, DDb0, DBc0, DBc1, DDe0, DAlh0, DAlv0, hren, e2]
      refine ⟨(A' ++ V', U'.drop V'.length, U'.take V'.length, B'), ⟨?_, ?_, ?_, ?_, ?_⟩, ?_, ?_⟩
      · simp only [List.append_assoc]
        rw [← q1, ← List.append_assoc (U'.take V'.length), List.take_append_drop]
      · simp; omega
      · simp; omega
      · simp; omega
      · simp; omega
      · simp; omega
      have e3 : (U'.take V'.length).length = V'.length := by rw [List.length_take]; omega
      simp only [e3]
      (refine wk_le ?_ ?_ ?_; (focus (simp [W8, leTm, leAV, AV.under, underL, ints, hcs, hren]; done)); (focus (simp [leL, OB.under, underL, AV.under, ints, hcs, hren]; done)); (focus (simp; done)))
    · -- the right one is the longer one
      have hS := swapRange_c f cs hcs hfr A' U' (V'.take (V'.length - U'.length)) (V'.drop (V'.length - U'.length)) B' (by rw [List.length_drop]; omega) N A'.length (m + V'.length - U'.length) U'.length rfl (by simp; omega) rfl (by simp; omega) hN2
      have eV : V'.take (V'.length - U'.length) ++ (V'.drop (V'.length - U'.length) ++ B') = V' ++ B' := by rw [← List.append_assoc, List.take_append_drop]
      rw [eV] at hS
      have e1 : ((m : Int) - (U'.length : Int)) = (A'.length : Int) := by omega
      have e4 : ((m : Int) + (V'.length : Int) - (U'.length : Int)) = ((m + V'.length - U'.length : Nat) : Int) := by omega
      simp (disch := omega) only [SX0, SX1, SX2, SX3, SX4, SX5, SX6, SX7, SX8, SU0, SY0, SY1, Nat.reduceAdd, Nat.reduceMul, Nat.reduceSub, Nat.reduceLeDiff, Nat.reduceEqDiff, Nat.reduceLT, Nat.reduceBEq, ↓reduceIte, Int.reduceLE, Int.reduceLT, Int.reduceToNat, Int.reduceNeg, reduceCtorEq, Int.reduceEq, SF0, SF1, SF2, DHb0, DHb1, DHa0, DCg0, DCe0, DCe1, DCe2, DDb0, DBc0, DBc1, DDe0, DAlh0, DAlv0, e1, e4]
      refine acall_own hS [0, 1] [] (by simp [keepL, nameIn, OB.ren, freeL_ren' _ _ hfr, ints]) (by decide) (by decide) (by rfl) (by simp [AV.ren, nameIn, renL]) ?_
      rintro _ _ ⟨rfl, rfl⟩
      have e2 : ((V'.length : Int) - (U'.length : Int)) = ((V'.take (V'.length - U'.length)).length : Int) := by simp; omega
      simp (disch := omega) only [SX0, SX1, SX2, SX3, SX4, SX5, SX6, SX7, SX8, SU0, SY0, SY1, Nat.reduceAdd, Nat.reduceMul, Nat.reduceSub, Nat.reduceLeDiff, Nat.reduceEqDiff, Nat.reduceLT, Nat.reduceBEq, ↓reduceIte, Int.reduceLE, Int.reduceLT, Int.reduceToNat, Int.reduceNeg, reduceCtorEq, Int.reduceEq, SF0, SF1, SF2, DHb0, DHb1, DHa0, DCg0, DCe0, DCe1, DCe2, DDb0, DBc0, DBc1, DDe0, DAlh0, DAlv0, hren, e2]
      refine ⟨(A', V'.drop (V'.length - U'.length), V'.take (V'.length - U'.length), U' ++ B'), ⟨?_, ?_, ?_, ?_, ?_⟩, ?_, ?_⟩
      · simp only
        rw [← q1, ← List.append_assoc (V'.take (V'.length - U'.length)), List.take_append_drop]
      · simp; omega
      · simp; omega
      · simp; omega
      · simp; omega
      · simp; omega
      have e3 : (V'.drop (V'.length - U'.length)).length = U'.length := by rw [List.length_drop]; omega
      simp only [e3]
      (refine wk_le ?_ ?_ ?_; (focus (simp [W8, leTm, leAV, AV.under, underL, ints, hcs, hren]; done)); (focus (simp [leL, OB.under, underL, AV.under, ints, hcs, hren]; done)); (focus (simp; done)))
  · have hS := swapRange_c f cs hcs hfr A' U' [] V' B' (by omega) N A'.length m U'.length rfl (by simp; omega) rfl (by simp; omega) hN2
    rw [List.nil_append, List.nil_append] at hS
    have e1 : ((m : Int) - (U'.length : Int)) = (A'.length : Int) := by omega
    simp (disch := omega) only [SX0, SX1, SX2, SX3, SX4, SX5, SX6, SX7, SX8, SU0, SY0, SY1, Nat.reduceAdd, Nat.reduceMul, Nat.reduceSub, Nat.reduceLeDiff, Nat.reduceEqDiff, Nat.reduceLT, Nat.reduceBEq, ↓reduceIte, Int.reduceLE, Int.reduceLT, Int.reduceToNat, Int.reduceNeg, reduceCtorEq, Int.reduceEq, SF0, SF1, SF2, DHb0, DHb1, DHa0, DCg0, DCe0, DCe1, DCe2, DDb0, DBc0, DBc1, DDe0, DAlh0, DAlv0, e1]
    refine acall_own hS [0, 1] [] (by simp [keepL, nameIn, OB.ren, freeL_ren' _ _ hfr, ints]) (by decide) (by decide) (by rfl) (by simp [AV.ren, nameIn, renL]) ?_
    rintro _ _ ⟨rfl, rfl⟩
    rw [q1]
    simp (disch := omega) only [SX0, SX1, SX2, SX3, SX4, SX5, SX6, SX7, SX8, SU0, SY0, SY1, Nat.reduceAdd, Nat.reduceMul, Nat.reduceSub, Nat.reduceLeDiff, Nat.reduceEqDiff, Nat.reduceLT, Nat.reduceBEq, ↓reduceIte, Int.reduceLE, Int.reduceLT, Int.reduceToNat, Int.reduceNeg, reduceCtorEq, Int.reduceEq, SF0, SF1, SF2, DHb0, DHb1, DHa0, DCg0, DCe0, DCe1, DCe2, DDb0, DBc0, DBc1, DDe0, DAlh0, DAlv0, hren]
    exact fin_ks [0, 1] (.tup []) [.vec 1 (ints (A ++ (V ++ (U ++ B)))), .cells cs] ⟨rfl, rfl⟩ rfl (by simp [keepL, nameK, OB.ren, ints, freeL_ren' _ _ hfr]) (by simp) (by simp) (by simp)
end Go.Pc
