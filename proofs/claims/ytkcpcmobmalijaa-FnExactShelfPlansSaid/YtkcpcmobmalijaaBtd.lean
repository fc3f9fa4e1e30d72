/- Insertion sort of a part of a row. -/
import Derived.Test.YtkcpcmobmalijaaBsa
set_option linter.unusedSimpArgs false
set_option linter.unusedVariables false
namespace Go.Pc
open Go Go.Proofs

theorem mid_get {A S B : List Int} {j : Nat} {x : Int} (h : S[j]? = some x) : (A ++ (S ++ B))[A.length + j]? = some x := by
  have hj := (List.getElem?_eq_some_iff.1 h).1
  rw [List.getElem?_append_right (by omega), List.getElem?_append_left (by omega), Nat.add_sub_cancel_left]
  exact h
theorem mid_set {A S B : List Int} {j : Nat} (v : Int) (h : j < S.length) : (A ++ (S ++ B)).set (A.length + j) v = A ++ (S.set j v ++ B) := by
  rw [List.set_append_right _ _ (by omega), Nat.add_sub_cancel_left, List.set_append_left _ _ h]

theorem e_insSortR : Enters Try.prog 163 := enters_of Try.func163 (by kernel_rfl) (by kernel_rfl)
set_option maxRecDepth 8000 in
set_option maxHeartbeats 4000000 in
theorem insSortR_c (f : FuncId) (cs : List AV) (g : Int → Int → Int) (D : Int → Prop) (hg : CmpOk g D) (hcs : ∀ m, underL m cs = true) (hfr : freeL cs = true) (E : Int → Int → Prop) (hf : ∀ x y, D x → D y → E x y → ACalls Try.prog f [.val (.int .i64 x), .val (.int .i64 y), .ptr 0 0] [.cells cs] [0] (fun r L => ∃ c, r = .val (.int .i64 c) ∧ (c < 0 ↔ g x y < 0) ∧ L = [.cells cs]))
    (A S B : List Int) (a b N : Nat) (hS : ∀ x ∈ S, D x) (hE : S.Pairwise fun y x => E x y) (ha : a = A.length) (hb : b = a + S.length) (hN : N = b + B.length) (hl : N ≤ 1000) : ACalls Try.prog 163 [.os 0 1 0 N, .val (.int .i64 a), .val (.int .i64 b), .fn f [.ptr 1 0]] [.vec 1 (ints (A ++ (S ++ B))), .cells cs] [0, 1] (fun r L => r = .tup [] ∧ ∃ S', L = [.vec 1 (ints (A ++ (S' ++ B))), .cells cs] ∧ S'.Perm S ∧ srt g S') := by
  refine acalls_tm T_tt Try.func163 rfl e_insSortR 49 rfl (W8 _ _ _ _ .any .any .any .any (W8 .any .any .any .any .any .any .any .any (W8 .any .any .any .any .any .any .any .any (W8 .any .any .any .any .any .any .any .any (W8 .any .any .any .any .any .any .any .any (W8 .any .any .any .any .any .any .any .any [.any, .any, .any, .any, .any])))))) rfl (rv := []) rfl (sx_sound (bl := []) T_tt _ _ _ ?_)
  simp (disch := omega) only [SX0, SX1, SX2, SX3, SX4, SX5, SX6, SX7, SX8, SU0, SY0, SY1, Nat.reduceAdd, Nat.reduceMul, Nat.reduceSub, Nat.reduceLeDiff, Nat.reduceEqDiff, Nat.reduceLT, Nat.reduceBEq, ↓reduceIte, Int.reduceLE, Int.reduceLT, Int.reduceToNat, Int.reduceNeg, reduceCtorEq, Int.reduceEq, SF0, SF1, SF2, DHb0, DHb1, DHa0, DCg0, DCe0, DCe1, DCe2, DDb0, DBc0, DBc1, DDe0, DAlh0, DAlv0]
  with_reducible refine awp_loop_h (G := List Int × Nat) 9 44 (fun g => [(8, .val (.int .i64 (a + g.2 : Nat)))]) (fun g => [.vec 1 (ints (A ++ (g.1 ++ B))), .cells cs]) (fun h => h.1.Perm S ∧ 1 ≤ h.2 ∧ (h.2 ≤ S.length ∨ h.2 = 1) ∧ srt g (h.1.take h.2) ∧ h.1.drop h.2 = S.drop h.2 ∧ (h.1.take h.2).Perm (S.take h.2)) (fun g => S.length + 1 - g.2) (S, 1) ⟨.rfl, by simp, by simp, by
    unfold srt
    cases S with
    | nil => simp
    | cons a S => simp, rfl, .rfl⟩ ?_ (fun h hh => ?_)
  · have e1 : ((a : Int) + 1) = ((a + 1 : Nat) : Int) := by omega
    simp only [e1]
    simp (disch := omega) only [SX0, SX1, SX2, SX3, SX4, SX5, SX6, SX7, SX8, SU0, SY0, SY1, Nat.reduceAdd, Nat.reduceMul, Nat.reduceSub, Nat.reduceLeDiff, Nat.reduceEqDiff, Nat.reduceLT, Nat.reduceBEq, ↓reduceIte, Int.reduceLE, Int.reduceLT, Int.reduceToNat, Int.reduceNeg, reduceCtorEq, Int.reduceEq, SF0, SF1, SF2, DHb0, DHb1, DHa0, DCg0, DCe0, DCe1, DCe2, DDb0, DBc0, DBc1, DDe0, DAlh0, DAlv0]
    (refine wk_le ?_ ?_ ?_; (focus (simp [W8, leTm, leAV, AV.under, underL, ints, hcs]; done)); (focus (simp [leL, OB.under, underL, AV.under, ints, hcs]; done)); (focus (simp; done)))
  obtain ⟨S2, i⟩ := h
  simp only at hh
  obtain ⟨hp, hi1, hi2, hs, hdr, hpt⟩ := hh
  have hlen := hp.length_eq
  refine sx_sound (bl := []) T_tt _ _ _ ?_
  simp (disch := omega) only [SX0, SX1, SX2, SX3, SX4, SX5, SX6, SX7, SX8, SU0, SY0, SY1, Nat.reduceAdd, Nat.reduceMul, Nat.reduceSub, Nat.reduceLeDiff, Nat.reduceEqDiff, Nat.reduceLT, Nat.reduceBEq, ↓reduceIte, Int.reduceLE, Int.reduceLT, Int.reduceToNat, Int.reduceNeg, reduceCtorEq, Int.reduceEq, SF0, SF1, SF2, DHb0, DHb1, DHa0, DCg0, DCe0, DCe1, DCe2, DDb0, DBc0, DBc1, DDe0, DAlh0, DAlv0]
  refine br_dec (fun h1 => ?_) (fun h1 => ?_)
  · obtain ⟨x, hx⟩ := get_lt (l := S2) (i := i) (by omega)
    have hD : ∀ y ∈ S2, D y := fun y hy => hS y (hp.mem_iff.1 hy)
    have hxD := hD x (List.mem_of_getElem? hx)
    have hxS : S[i]? = some x := by
      have e1 : (S2.drop i)[0]? = some x := by rw [List.getElem?_drop]; simpa using hx
      rw [hdr, List.getElem?_drop] at e1
      simpa using e1
    have hEx : ∀ y ∈ S2.take i, E x y := fun y hy => by
      have hy' := hpt.mem_iff.1 hy
      obtain ⟨j, hj, rfl⟩ := List.mem_iff_getElem.1 hy'
      have hji : j < i ∧ j < S.length := by simp at hj; omega
      have hiS : i < S.length := (List.getElem?_eq_some_iff.1 hxS).1
      have := List.pairwise_iff_getElem.1 hE j i hji.2 hiS hji.1
      rw [List.getElem_take]
      rwa [(List.getElem?_eq_some_iff.1 hxS).2] at this
    have hdr1 : S2.drop (i + 1) = S.drop (i + 1) := by
      have := congrArg (List.drop 1) hdr
      rwa [List.drop_drop, List.drop_drop] at this
    have hpt1 : (S2.take i ++ [x]).Perm (S.take (i + 1)) := by
      rw [List.take_add_one, hxS]
      exact hpt.append .rfl
    clear hdr hpt
    have eS : S2 = insAt (S2.take i) x (S2.drop (i + 1)) i := by
      have hl1 : (S2.take i).length = i := by rw [List.length_take]; omega
      have := insAt_top (S2.take i) x (S2.drop (i + 1))
      rw [hl1] at this
      rw [this, ← drop_consB hx, List.take_append_drop]
    have hPl : (S2.take i).length = i := by rw [List.length_take]; omega
    have hDP : ∀ y ∈ S2.take i, D y := fun y hy => hD y (List.mem_of_mem_take hy)
    have hRl : (S2.drop (i + 1)).length = S2.length - (i + 1) := by simp
    generalize S2.take i = P at *
    generalize S2.drop (i + 1) = rest at *
    subst eS
    have hnew : ∀ j, j ≤ P.length → (insAt P x rest j).drop (i + 1) = S.drop (i + 1) ∧ ((insAt P x rest j).take (i + 1)).Perm (S.take (i + 1)) := fun j hj => by
      refine ⟨?_, ?_⟩
      · rw [← hdr1]
        unfold insAt
        rw [List.drop_append, List.drop_of_length_le (by simp; omega), List.nil_append, List.length_take, show i + 1 - min j P.length = (i - j) + 1 by omega, List.drop_succ_cons, List.drop_append, List.drop_of_length_le (by simp; omega), List.nil_append, List.length_drop, show i - j - (P.length - j) = 0 by omega]
        rfl
      · rw [← hPl, insAt_take P x rest hj]
        refine (insAt_perm P x [] j).trans ?_
        rwa [hPl]
    simp (disch := omega) only [SX0, SX1, SX2, SX3, SX4, SX5, SX6, SX7, SX8, SU0, SY0, SY1, Nat.reduceAdd, Nat.reduceMul, Nat.reduceSub, Nat.reduceLeDiff, Nat.reduceEqDiff, Nat.reduceLT, Nat.reduceBEq, ↓reduceIte, Int.reduceLE, Int.reduceLT, Int.reduceToNat, Int.reduceNeg, reduceCtorEq, Int.reduceEq, SF0, SF1, SF2, DHb0, DHb1, DHa0, DCg0, DCe0, DCe1, DCe2, DDb0, DBc0, DBc1, DDe0, DAlh0, DAlv0]
    with_reducible refine awp_loop_h (G := Nat) 10 43 (fun j => [(9, .val (.int .i64 (a + j : Nat)))]) (fun j => [.vec 1 (ints (A ++ (insAt P x rest j ++ B))), .cells cs]) (fun j => j ≤ P.length ∧ ∀ y ∈ P.drop j, g x y < 0) (fun j => j) i ⟨by omega, by rw [← hPl]; simp⟩ ?_ (fun j hj => ?_)
    · simp (disch := omega) only [SX0, SX1, SX2, SX3, SX4, SX5, SX6, SX7, SX8, SU0, SY0, SY1, Nat.reduceAdd, Nat.reduceMul, Nat.reduceSub, Nat.reduceLeDiff, Nat.reduceEqDiff, Nat.reduceLT, Nat.reduceBEq, ↓reduceIte, Int.reduceLE, Int.reduceLT, Int.reduceToNat, Int.reduceNeg, reduceCtorEq, Int.reduceEq, SF0, SF1, SF2, DHb0, DHb1, DHa0, DCg0, DCe0, DCe1, DCe2, DDb0, DBc0, DBc1, DDe0, DAlh0, DAlv0]
      (refine wk_le ?_ ?_ ?_; (focus (simp [W8, leTm, leAV, AV.under, underL, ints, hcs]; done)); (focus (simp [leL, OB.under, underL, AV.under, ints, hcs]; done)); (focus (simp; done)))
    obtain ⟨hj, hjl⟩ := hj
    have hren : ∀ f, renL f cs = cs := fun f => freeL_rend f hfr
    have hil := insAt_len P x rest j
    have hil' := insAt_len P x rest i
    refine sx_sound (bl := []) T_tt _ _ _ ?_
    simp (disch := omega) only [SX0, SX1, SX2, SX3, SX4, SX5, SX6, SX7, SX8, SU0, SY0, SY1, Nat.reduceAdd, Nat.reduceMul, Nat.reduceSub, Nat.reduceLeDiff, Nat.reduceEqDiff, Nat.reduceLT, Nat.reduceBEq, ↓reduceIte, Int.reduceLE, Int.reduceLT, Int.reduceToNat, Int.reduceNeg, reduceCtorEq, Int.reduceEq, SF0, SF1, SF2, DHb0, DHb1, DHa0, DCg0, DCe0, DCe1, DCe2, DDb0, DBc0, DBc1, DDe0, DAlh0, DAlv0]
    refine awp_draw (bl := []) T_tt mixed 14 (by decide) (by kernel_rfl) (.inr ⟨by kernel_rfl, by kernel_rfl⟩) (by kernel_rfl) ?_
    simp (disch := omega) only [SX0, SX1, SX2, SX3, SX4, SX5, SX6, SX7, SX8, SU0, SY0, SY1, Nat.reduceAdd, Nat.reduceMul, Nat.reduceSub, Nat.reduceLeDiff, Nat.reduceEqDiff, Nat.reduceLT, Nat.reduceBEq, ↓reduceIte, Int.reduceLE, Int.reduceLT, Int.reduceToNat, Int.reduceNeg, reduceCtorEq, Int.reduceEq, SF0, SF1, SF2, DHb0, DHb1, DHa0, DCg0, DCe0, DCe1, DCe2, DDb0, DBc0, DBc1, DDe0, DAlh0, DAlv0]
    refine br_dec (fun h2 => ?_) (fun h2 => ?_)
    · obtain ⟨j, rfl⟩ : ∃ m, j = m + 1 := ⟨j - 1, by omega⟩
      obtain ⟨y, hy⟩ := get_lt (l := P) (i := j) (by omega)
      have hgx := mid_get (A := A) (B := B) (insAt_get (x := x) (rest := rest) hj)
      have hgy := mid_get (A := A) (B := B) (insAt_get1 (x := x) (rest := rest) hy)
      rw [← ha] at hgx hgy
      have hyD := hDP y (List.mem_of_getElem? hy)
      have hsw : ((A ++ (insAt P x rest (j + 1) ++ B)).set (a + (j + 1)) y).set (a + j) x = A ++ (insAt P x rest j ++ B) := by
        rw [ha, mid_set _ (by omega), mid_set _ (by rw [List.length_set]; omega), insAt_swap hy]
      have hln : (A ++ (insAt P x rest (j + 1) ++ B)).length = N := by simp; omega
      have e1 : (((a + (j + 1) : Nat) : Int) - 1) = ((a + j : Nat) : Int) := by omega
      simp (disch := omega) only [SX0, SX1, SX2, SX3, SX4, SX5, SX6, SX7, SX8, SU0, SY0, SY1, Nat.reduceAdd, Nat.reduceMul, Nat.reduceSub, Nat.reduceLeDiff, Nat.reduceEqDiff, Nat.reduceLT, Nat.reduceBEq, ↓reduceIte, Int.reduceLE, Int.reduceLT, Int.reduceToNat, Int.reduceNeg, reduceCtorEq, Int.reduceEq, SF0, SF1, SF2, DHb0, DHb1, DHa0, DCg0, DCe0, DCe1, DCe2, DDb0, DBc0, DBc1, DDe0, DAlh0, DAlv0, hgx, e1]
      refine req (by omega) ?_
      simp (disch := omega) only [SX0, SX1, SX2, SX3, SX4, SX5, SX6, SX7, SX8, SU0, SY0, SY1, Nat.reduceAdd, Nat.reduceMul, Nat.reduceSub, Nat.reduceLeDiff, Nat.reduceEqDiff, Nat.reduceLT, Nat.reduceBEq, ↓reduceIte, Int.reduceLE, Int.reduceLT, Int.reduceToNat, Int.reduceNeg, reduceCtorEq, Int.reduceEq, SF0, SF1, SF2, DHb0, DHb1, DHa0, DCg0, DCe0, DCe1, DCe2, DDb0, DBc0, DBc1, DDe0, DAlh0, DAlv0, hgx, hgy, e1]
      refine req (by omega) ?_
      simp (disch := omega) only [SX0, SX1, SX2, SX3, SX4, SX5, SX6, SX7, SX8, SU0, SY0, SY1, Nat.reduceAdd, Nat.reduceMul, Nat.reduceSub, Nat.reduceLeDiff, Nat.reduceEqDiff, Nat.reduceLT, Nat.reduceBEq, ↓reduceIte, Int.reduceLE, Int.reduceLT, Int.reduceToNat, Int.reduceNeg, reduceCtorEq, Int.reduceEq, SF0, SF1, SF2, DHb0, DHb1, DHa0, DCg0, DCe0, DCe1, DCe2, DDb0, DBc0, DBc1, DDe0, DAlh0, DAlv0, hgx, hgy, e1]
      refine acall_cl (hf x y hxD hyD (hEx y (List.mem_of_getElem? hy))) [1] [] (by simp [keepL, nameIn, OB.ren, freeL_ren' _ _ hfr]) (by decide) (by decide) (by rfl) (by simp [AV.ren, nameIn]) ?_
      rintro _ _ ⟨c, rfl, hc, rfl⟩
      simp (disch := omega) only [SX0, SX1, SX2, SX3, SX4, SX5, SX6, SX7, SX8, SU0, SY0, SY1, Nat.reduceAdd, Nat.reduceMul, Nat.reduceSub, Nat.reduceLeDiff, Nat.reduceEqDiff, Nat.reduceLT, Nat.reduceBEq, ↓reduceIte, Int.reduceLE, Int.reduceLT, Int.reduceToNat, Int.reduceNeg, reduceCtorEq, Int.reduceEq, SF0, SF1, SF2, DHb0, DHb1, DHa0, DCg0, DCe0, DCe1, DCe2, DDb0, DBc0, DBc1, DDe0, DAlh0, DAlv0]
      refine br_dec (fun h3 => ?_) (fun h3 => ?_)
      · generalize hR : A ++ (insAt P x rest (j + 1) ++ B) = R at *
        simp (disch := omega) only [SX0, SX1, SX2, SX3, SX4, SX5, SX6, SX7, SX8, SU0, SY0, SY1, Nat.reduceAdd, Nat.reduceMul, Nat.reduceSub, Nat.reduceLeDiff, Nat.reduceEqDiff, Nat.reduceLT, Nat.reduceBEq, ↓reduceIte, Int.reduceLE, Int.reduceLT, Int.reduceToNat, Int.reduceNeg, reduceCtorEq, Int.reduceEq, SF0, SF1, SF2, DHb0, DHb1, DHa0, DCg0, DCe0, DCe1, DCe2, DDb0, DBc0, DBc1, DDe0, DAlh0, DAlv0]
        refine awp_floatG (bl := []) T_tt mixed [0, 1] [0, 1, 2, 3, 4, 5, 6, 7, 8, 9, 10, 11, 12, 13, 14, 16] [0, 1, 2, 3, 4, 5, 6, 7, 8, 9, 10, 11, 12, 13, 14] [⟨15, [0, 1], [(0, .f 37), (1, .f 38), (5, .f 42), (6, .f 43), (7, .f 44), (8, .f 45), (9, .f 46), (10, .f 47), (11, .f 48), (12, .f 49), (13, .f 50), (14, .f 51)], [16], [(2, .f 39), (3, .f 40), (4, .f 41)]⟩, ⟨17, [0, 1], [(2, .f 39), (3, .f 40), (4, .f 41), (16, .f 52)], [], []⟩] [] (by kernel_rfl) (by kernel_rfl) ?_
        simp (disch := omega) only [SX0, SX1, SX2, SX3, SX4, SX5, SX6, SX7, SX8, SU0, SY0, SY1, Nat.reduceAdd, Nat.reduceMul, Nat.reduceSub, Nat.reduceLeDiff, Nat.reduceEqDiff, Nat.reduceLT, Nat.reduceBEq, ↓reduceIte, Int.reduceLE, Int.reduceLT, Int.reduceToNat, Int.reduceNeg, reduceCtorEq, Int.reduceEq, SF0, SF1, SF2, DHb0, DHb1, DHa0, DCg0, DCe0, DCe1, DCe2, DDb0, DBc0, DBc1, DDe0, DAlh0, DAlv0, SX0, hgx, hgy, e1, hren]
        have hs2 : ((List.map (fun x => [AV.val (.int .i64 x)]) R).set (a + (j + 1)) [AV.val (.int .i64 y)])[a + j]? = some [.val (.int .i64 y)] := by
          rw [List.getElem?_set_ne (by omega), List.getElem?_map, hgy]; rfl
        have hs3 : ((List.map (fun x => [AV.val (.int .i64 x)]) R).set (a + (j + 1)) [AV.val (.int .i64 y)]).set (a + j) [AV.val (.int .i64 x)] = ints (A ++ (insAt P x rest j ++ B)) := by
          rw [← hsw]; simp [ints, List.map_set]
        have hln : ((List.map (fun x => [AV.val (.int .i64 x)]) R).set (a + (j + 1)) [AV.val (.int .i64 y)]).length = N := by simp; omega
        repeat (first | refine req (by omega) ?_ | simp (disch := omega) only [SX0, SX1, SX2, SX3, SX4, SX5, SX6, SX7, SX8, SU0, SY0, SY1, Nat.reduceAdd, Nat.reduceMul, Nat.reduceSub, Nat.reduceLeDiff, Nat.reduceEqDiff, Nat.reduceLT, Nat.reduceBEq, ↓reduceIte, Int.reduceLE, Int.reduceLT, Int.reduceToNat, Int.reduceNeg, reduceCtorEq, Int.reduceEq, SF0, SF1, SF2, DHb0, DHb1, DHa0, DCg0, DCe0, DCe1, DCe2, DDb0, DBc0, DBc1, DDe0, DAlh0, DAlv0, SX0, hgx, hgy, e1, hs2, hs3])
        refine ⟨j, ⟨by omega, fun z hz => ?_⟩, by omega, ?_⟩
        · rw [drop_consB hy] at hz
          rcases List.mem_cons.1 hz with rfl | hz
          · exact hc.1 h3
          · exact hjl z hz
        (refine wk_le ?_ ?_ ?_; (focus (simp [W8, leTm, leAV, AV.under, underL, ints, hcs]; done)); (focus (simp [leL, OB.under, underL, AV.under, ints, hcs]; done)); (focus (simp; done)))
      · simp (disch := omega) only [SX0, SX1, SX2, SX3, SX4, SX5, SX6, SX7, SX8, SU0, SY0, SY1, Nat.reduceAdd, Nat.reduceMul, Nat.reduceSub, Nat.reduceLeDiff, Nat.reduceEqDiff, Nat.reduceLT, Nat.reduceBEq, ↓reduceIte, Int.reduceLE, Int.reduceLT, Int.reduceToNat, Int.reduceNeg, reduceCtorEq, Int.reduceEq, SF0, SF1, SF2, DHb0, DHb1, DHa0, DCg0, DCe0, DCe1, DCe2, DDb0, DBc0, DBc1, DDe0, DAlh0, DAlv0, hren]
        refine ⟨(insAt P x rest (j + 1), i + 1), ⟨((insAt_perm P x rest (j + 1)).trans (insAt_perm P x rest i).symm).trans hp, by simp only []; omega, by simp only []; omega, ?_, (hnew (j + 1) hj).1, (hnew (j + 1) hj).2⟩, by simp only []; omega, ?_⟩
        · simp only
          rw [← hPl, insAt_take P x rest hj]
          refine srt_ins hg hj hDP hxD hs hjl fun z _ hz => ?_
          rw [Nat.add_sub_cancel, hy] at hz
          cases hz
          exact fun h => h3 (hc.2 h)
        (refine wk_le ?_ ?_ ?_; (focus (simp [W8, leTm, leAV, AV.under, underL, ints, hcs, Int.add_assoc]; done)); (focus (simp [leL, OB.under, underL, AV.under, ints, hcs, Int.add_assoc]; done)); (focus (simp; done)))
    · have j0 : j = 0 := by omega
      simp (disch := omega) only [SX0, SX1, SX2, SX3, SX4, SX5, SX6, SX7, SX8, SU0, SY0, SY1, Nat.reduceAdd, Nat.reduceMul, Nat.reduceSub, Nat.reduceLeDiff, Nat.reduceEqDiff, Nat.reduceLT, Nat.reduceBEq, ↓reduceIte, Int.reduceLE, Int.reduceLT, Int.reduceToNat, Int.reduceNeg, reduceCtorEq, Int.reduceEq, SF0, SF1, SF2, DHb0, DHb1, DHa0, DCg0, DCe0, DCe1, DCe2, DDb0, DBc0, DBc1, DDe0, DAlh0, DAlv0]
      refine ⟨(insAt P x rest j, i + 1), ⟨((insAt_perm P x rest j).trans (insAt_perm P x rest i).symm).trans hp, by simp only []; omega, by simp only []; omega, ?_, (hnew j hj).1, (hnew j hj).2⟩, by simp only []; omega, ?_⟩
      · simp only
        rw [← hPl, insAt_take P x rest hj]
        exact srt_ins hg hj hDP hxD hs hjl (fun y hy => absurd j0 hy)
      (refine wk_le ?_ ?_ ?_; (focus (simp [W8, leTm, leAV, AV.under, underL, ints, hcs, Int.add_assoc]; done)); (focus (simp [leL, OB.under, underL, AV.under, ints, hcs, Int.add_assoc]; done)); (focus (simp; done)))
  · simp (disch := omega) only [SX0, SX1, SX2, SX3, SX4, SX5, SX6, SX7, SX8, SU0, SY0, SY1, Nat.reduceAdd, Nat.reduceMul, Nat.reduceSub, Nat.reduceLeDiff, Nat.reduceEqDiff, Nat.reduceLT, Nat.reduceBEq, ↓reduceIte, Int.reduceLE, Int.reduceLT, Int.reduceToNat, Int.reduceNeg, reduceCtorEq, Int.reduceEq, SF0, SF1, SF2, DHb0, DHb1, DHa0, DCg0, DCe0, DCe1, DCe2, DDb0, DBc0, DBc1, DDe0, DAlh0, DAlv0]
    refine fin_ks [0, 1] (.tup []) [.vec 1 (ints (A ++ (S2 ++ B))), .cells cs] ⟨rfl, S2, rfl, hp, ?_⟩ rfl (by simp [keepL, nameK, OB.ren, ints, freeL_ren' _ _ hfr]) (by simp) (by simp) (by simp)
    rcases Nat.lt_or_ge i S2.length with h | h
    · exfalso; omega
    · rwa [List.take_of_length_le h] at hs
end Go.Pc
