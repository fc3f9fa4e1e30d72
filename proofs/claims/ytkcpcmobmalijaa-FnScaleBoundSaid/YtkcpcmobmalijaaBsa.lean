/- Stable sorting: equal ones in the order in which they stood. -/
import Derived.Test.YtkcpcmobmalijaaJa
import Derived.Test.YtkcpcmobmalijaaAlh
import Derived.Test.YtkcpcmobmalijaaAlv
import Derived.Test.YtkcpcmobmalijaaHa
set_option linter.unusedSimpArgs false
set_option linter.unusedVariables false
namespace Go.Pc
open Go Go.Proofs

theorem drop_consB {α : Type} {l : List α} {i : Nat} {x : α} (h : l[i]? = some x) : l.drop i = x :: l.drop (i + 1) := by
  have hi := (List.getElem?_eq_some_iff.1 h).1
  rw [List.drop_eq_getElem_cons hi, (List.getElem?_eq_some_iff.1 h).2]
def insAt (P : List Int) (x : Int) (rest : List Int) (j : Nat) : List Int := P.take j ++ x :: (P.drop j ++ rest)
theorem insAt_len (P : List Int) (x : Int) (rest : List Int) (j : Nat) : (insAt P x rest j).length = P.length + 1 + rest.length := by
  simp [insAt]; omega
theorem insAt_perm (P : List Int) (x : Int) (rest : List Int) (j : Nat) : (insAt P x rest j).Perm (P ++ x :: rest) := by
  unfold insAt
  refine List.perm_middle.trans ?_
  rw [← List.append_assoc, List.take_append_drop]
  exact List.perm_middle.symm
theorem insAt_get {P : List Int} {x : Int} {rest : List Int} {j : Nat} (h : j ≤ P.length) : (insAt P x rest j)[j]? = some x := by
  unfold insAt
  rw [List.getElem?_append_right (by simp; omega)]
  simp [Nat.min_eq_left h]
theorem insAt_get1 {P : List Int} {x y : Int} {rest : List Int} {j : Nat} (hy : P[j]? = some y) : (insAt P x rest (j + 1))[j]? = some y := by
  have hj := (List.getElem?_eq_some_iff.1 hy).1
  unfold insAt
  rw [List.getElem?_append_left (by simp; omega), List.getElem?_take, if_pos (by omega)]
  exact hy
theorem insAt_swap {P : List Int} {x y : Int} {rest : List Int} {j : Nat} (hy : P[j]? = some y) : ((insAt P x rest (j + 1)).set (j + 1) y).set j x = insAt P x rest j := by
  have hj := (List.getElem?_eq_some_iff.1 hy).1
  have e : P.take (j + 1) = P.take j ++ [y] := by rw [List.take_add_one, hy]; rfl
  have d : P.drop j = y :: P.drop (j + 1) := drop_consB hy
  have l : (P.take j).length = j := by simp; omega
  unfold insAt
  rw [e, d]
  rw [List.set_append_right _ _ (by simp; omega)]
  have : j + 1 - (P.take j ++ [y]).length = 0 := by simp; omega
  rw [this, List.set_cons_zero, List.append_assoc, List.set_append_right _ _ (by omega), l, Nat.sub_self]
  rfl
theorem insAt_top (P : List Int) (x : Int) (rest : List Int) : insAt P x rest P.length = P ++ x :: rest := by simp [insAt]

theorem insAt_take (P : List Int) (x : Int) (rest : List Int) {j : Nat} (h : j ≤ P.length) : (insAt P x rest j).take (P.length + 1) = insAt P x [] j := by
  have e : insAt P x rest j = insAt P x [] j ++ rest := by simp [insAt]
  rw [e, List.take_append_of_le_length (by rw [insAt_len]; simp), List.take_of_length_le (by rw [insAt_len]; simp)]

/-- What sorted means. -/
def srt (g : Int → Int → Int) (S : List Int) : Prop := S.Pairwise fun x y => ¬ g y x < 0
/-- What a comparing function must be. -/
structure CmpOk (g : Int → Int → Int) (D : Int → Prop) : Prop where
  asym : ∀ x y, D x → D y → g x y < 0 → ¬ g y x < 0
  trans : ∀ x y z, D x → D y → D z → ¬ g y x < 0 → ¬ g z y < 0 → ¬ g z x < 0
theorem srt_ins {g : Int → Int → Int} {D : Int → Prop} (hg : CmpOk g D) {P : List Int} {x : Int} {j : Nat} (hj : j ≤ P.length) (hD : ∀ y ∈ P, D y) (hx : D x) (hP : srt g P) (h1 : ∀ y ∈ P.drop j, g x y < 0) (h2 : ∀ y, j ≠ 0 → P[j - 1]? = some y → ¬ g x y < 0) : srt g (insAt P x [] j) := by
  unfold insAt srt at *
  rw [List.append_nil]
  have hP' := hP
  rw [← List.take_append_drop j P, List.pairwise_append] at hP'
  obtain ⟨p1, p2, p3⟩ := hP'
  rw [List.pairwise_append, List.pairwise_cons]
  refine ⟨p1, ⟨fun y hy => hg.asym x y hx (hD y (List.mem_of_mem_drop hy)) (h1 y hy), p2⟩, fun a ha b hb => ?_⟩
  have haD := hD a (List.mem_of_mem_take ha)
  rcases List.mem_cons.1 hb with rfl | hb
  · obtain ⟨i, hi, rfl⟩ := List.mem_iff_getElem.1 ha
    have hij : i < j := by simp at hi; omega
    have hil : i < P.length := by simp at hi; omega
    rw [List.getElem_take]
    rw [List.getElem_take] at haD
    have hlast : j - 1 < P.length := by omega
    have hl := h2 _ (by omega) (List.getElem?_eq_getElem hlast)
    by_cases e : i = j - 1
    · subst e; exact hl
    · have := List.pairwise_iff_getElem.1 hP i (j - 1) hil hlast (by omega)
      exact hg.trans _ _ _ haD (hD _ (List.getElem_mem _)) hx this hl
  · exact p3 a ha b hb

theorem e_insSortE : Enters Try.prog 163 := enters_of Try.func163 (by kernel_rfl) (by kernel_rfl)
set_option maxRecDepth 8000 in
set_option maxHeartbeats 4000000 in
theorem insSortE_c (f : FuncId) (cs : List AV) (g : Int → Int → Int) (D : Int → Prop) (hg : CmpOk g D) (hcs : ∀ m, underL m cs = true) (hfr : freeL cs = true) (E : Int → Int → Prop) (hf : ∀ x y, D x → D y → E x y → ACalls Try.prog f [.val (.int .i64 x), .val (.int .i64 y), .ptr 0 0] [.cells cs] [0] (fun r L => ∃ c, r = .val (.int .i64 c) ∧ (c < 0 ↔ g x y < 0) ∧ L = [.cells cs]))
    (S : List Int) (hS : ∀ x ∈ S, D x) (hE : S.Pairwise fun y x => E x y) (hl : S.length ≤ 1000) : ACalls Try.prog 163 [.os 0 1 0 S.length, .val (.int .i64 0), .val (.int .i64 S.length), .fn f [.ptr 1 0]] [.vec 1 (ints S), .cells cs] [0, 1] (fun r L => r = .tup [] ∧ ∃ S', L = [.vec 1 (ints S'), .cells cs] ∧ S'.Perm S ∧ srt g S') := by
  refine acalls_tm T_tt Try.func163 rfl e_insSortE 49 rfl (W8 _ _ _ _ .any .any .any .any (W8 .any .any .any .any .any .any .any .any (W8 .any .any .any .any .any .any .any .any (W8 .any .any .any .any .any .any .any .any (W8 .any .any .any .any .any .any .any .any (W8 .any .any .any .any .any .any .any .any [.any, .any, .any, .any, .any])))))) rfl (rv := []) rfl (sx_sound (bl := []) T_tt _ _ _ ?_)
  simp (disch := omega) only [SX0, SX1, SX2, SX3, SX4, SX5, SX6, SX7, SX8, SU0, SY0, SY1, Nat.reduceAdd, Nat.reduceMul, Nat.reduceSub, Nat.reduceLeDiff, Nat.reduceEqDiff, Nat.reduceLT, Nat.reduceBEq, ↓reduceIte, Int.reduceLE, Int.reduceLT, Int.reduceToNat, Int.reduceNeg, reduceCtorEq, Int.reduceEq, SF0, SF1, SF2, DHb0, DHb1, DHa0, DCg0, DCe0, DCe1, DCe2, DDb0, DBc0, DBc1, DDe0, DAlh0, DAlv0]
  with_reducible refine awp_loop_h (G := List Int × Nat) 9 44 (fun g => [(8, .val (.int .i64 g.2))]) (fun g => [.vec 1 (ints g.1), .cells cs]) (fun h => h.1.Perm S ∧ 1 ≤ h.2 ∧ (h.2 ≤ S.length ∨ h.2 = 1) ∧ srt g (h.1.take h.2) ∧ h.1.drop h.2 = S.drop h.2 ∧ (h.1.take h.2).Perm (S.take h.2)) (fun g => S.length + 1 - g.2) (S, 1) ⟨.rfl, by simp, by simp, by
    unfold srt
    cases S with
    | nil => simp
    | cons a S => simp, rfl, .rfl⟩ ?_ (fun h hh => ?_)
  · simp (disch := omega) only [SX0, SX1, SX2, SX3, SX4, SX5, SX6, SX7, SX8, SU0, SY0, SY1, Nat.reduceAdd, Nat.reduceMul, Nat.reduceSub, Nat.reduceLeDiff, Nat.reduceEqDiff, Nat.reduceLT, Nat.reduceBEq, ↓reduceIte, Int.reduceLE, Int.reduceLT, Int.reduceToNat, Int.reduceNeg, reduceCtorEq, Int.reduceEq, SF0, SF1, SF2, DHb0, DHb1, DHa0, DCg0, DCe0, DCe1, DCe2, DDb0, DBc0, DBc1, DDe0, DAlh0, DAlv0]
    (refine wk_le ?_ ?_ ?_; (focus (simp [W8, leTm, leAV, AV.under, underL, ints, hcs]; done)); (focus (simp [leL, OB.under, underL, AV.under, ints, hcs]; done)); (focus (simp; done)))
  obtain ⟨S2, i⟩ := h
  simp only at hh
  obtain ⟨hp, hi1, hi2, hs, hdr, hpt⟩ := hh
  have hlen := hp.length_eq
  refine sx_sound (bl := []) T_tt _ _ _ ?_
  simp (disch := omega) only [SX0, SX1, SX2, SX3, SX4, SX5, SX6, SX7, SX8, SU0, SY0, SY1, Nat.reduceAdd, Nat.reduceMul, Nat.reduceSub, Nat.reduceLeDiff, Nat.reduceEqDiff, Nat.reduceLT, Nat.reduceBEq, ↓reduceIte, Int.reduceLE, Int.reduceLT, Int.reduceToNat, Int.reduceNeg, reduceCtorEq, Int.reduceEq, SF0, SF1, SF2, DHb0, DHb1, DHa0, DCg0, DCe0, DCe1, DCe2, DDb0, DBc0, DBc1, DDe0, DAlh0, DAlv0]
  refine br_dec (fun h1 => ?_) (fun h1 => ?_)
  · obtain ⟨x, hx⟩ := get_lt (l := S2) (i := i) (by omega)
    have hD : ∀ y ∈ S2, D y := fun y hy => hS y (hp.mem_iff.1 hy)
    have hxD := hD x (List.mem_of_getElem? hx)
    have hxS : S[i]? = some x := by
      have e1 : (S2.drop i)[0]? = some x := by rw [List.getElem?_drop]; simpa using hx
      rw [hdr, List.getElem?_drop] at e1
      simpa using e1
    have hEx : ∀ y ∈ S2.take i, E x y := fun y hy => by
      have hy' := hpt.mem_iff.1 hy
      obtain ⟨j, hj, rfl⟩ := List.mem_iff_getElem.1 hy'
      have hji : j < i ∧ j < S.length := by simp at hj; omega
      have hiS : i < S.length := (List.getElem?_eq_some_iff.1 hxS).1
      have := List.pairwise_iff_getElem.1 hE j i hji.2 hiS hji.1
      rw [List.getElem_take]
      rwa [(List.getElem?_eq_some_iff.1 hxS).2] at this
    have hdr1 : S2.drop (i + 1) = S.drop (i + 1) := by
      have := congrArg (List.drop 1) hdr
      rwa [List.drop_drop, List.drop_drop] at this
    have hpt1 : (S2.take i ++ [x]).Perm (S.take (i + 1)) := by
      rw [List.take_add_one, hxS]
      exact hpt.append .rfl
    clear hdr hpt
    have eS : S2 = insAt (S2.take i) x (S2.drop (i + 1)) i := by
      have hl1 : (S2.take i).length = i := by rw [List.length_take]; omega
      have := insAt_top (S2.take i) x (S2.drop (i + 1))
      rw [hl1] at this
      rw [this, ← drop_consB hx, List.take_append_drop]
    have hPl : (S2.take i).length = i := by rw [List.length_take]; omega
    have hDP : ∀ y ∈ S2.take i, D y := fun y hy => hD y (List.mem_of_mem_take hy)
    have hRl : (S2.drop (i + 1)).length = S2.length - (i + 1) := by simp
    generalize S2.take i = P at *
    generalize S2.drop (i + 1) = rest at *
    subst eS
    have hnew : ∀ j, j ≤ P.length → (insAt P x rest j).drop (i + 1) = S.drop (i + 1) ∧ ((insAt P x rest j).take (i + 1)).Perm (S.take (i + 1)) := fun j hj => by
      refine ⟨?_, ?_⟩
      · rw [← hdr1]
        unfold insAt
        rw [List.drop_append, List.drop_of_length_le (by simp; omega), List.nil_append, List.length_take, show i + 1 - min j P.length = (i - j) + 1 by omega, List.drop_succ_cons, List.drop_append, List.drop_of_length_le (by simp; omega), List.nil_append, List.length_drop, show i - j - (P.length - j) = 0 by omega]
        rfl
      · rw [← hPl, insAt_take P x rest hj]
        refine (insAt_perm P x [] j).trans ?_
        rwa [hPl]
    simp (disch := omega) only [SX0, SX1, SX2, SX3, SX4, SX5, SX6, SX7, SX8, SU0, SY0, SY1, Nat.reduceAdd, Nat.reduceMul, Nat.reduceSub, Nat.reduceLeDiff, Nat.reduceEqDiff, Nat.reduceLT, Nat.reduceBEq, ↓reduceIte, Int.reduceLE, Int.reduceLT, Int.reduceToNat, Int.reduceNeg, reduceCtorEq, Int.reduceEq, SF0, SF1, SF2, DHb0, DHb1, DHa0, DCg0, DCe0, DCe1, DCe2, DDb0, DBc0, DBc1, DDe0, DAlh0, DAlv0]
    with_reducible refine awp_loop_h (G := Nat) 10 43 (fun j => [(9, .val (.int .i64 j))]) (fun j => [.vec 1 (ints (insAt P x rest j)), .cells cs]) (fun j => j ≤ P.length ∧ ∀ y ∈ P.drop j, g x y < 0) (fun j => j) i ⟨by omega, by rw [← hPl]; simp⟩ ?_ (fun j hj => ?_)
    · simp (disch := omega) only [SX0, SX1, SX2, SX3, SX4, SX5, SX6, SX7, SX8, SU0, SY0, SY1, Nat.reduceAdd, Nat.reduceMul, Nat.reduceSub, Nat.reduceLeDiff, Nat.reduceEqDiff, Nat.reduceLT, Nat.reduceBEq, ↓reduceIte, Int.reduceLE, Int.reduceLT, Int.reduceToNat, Int.reduceNeg, reduceCtorEq, Int.reduceEq, SF0, SF1, SF2, DHb0, DHb1, DHa0, DCg0, DCe0, DCe1, DCe2, DDb0, DBc0, DBc1, DDe0, DAlh0, DAlv0]
      (refine wk_le ?_ ?_ ?_; (focus (simp [W8, leTm, leAV, AV.under, underL, ints, hcs]; done)); (focus (simp [leL, OB.under, underL, AV.under, ints, hcs]; done)); (focus (simp; done)))
    obtain ⟨hj, hjl⟩ := hj
    have hren : ∀ f, renL f cs = cs := fun f => freeL_rend f hfr
    have hil := insAt_len P x rest j
    have hil' := insAt_len P x rest i
    refine sx_sound (bl := []) T_tt _ _ _ ?_
    simp (disch := omega) only [SX0, SX1, SX2, SX3, SX4, SX5, SX6, SX7, SX8, SU0, SY0, SY1, Nat.reduceAdd, Nat.reduceMul, Nat.reduceSub, Nat.reduceLeDiff, Nat.reduceEqDiff, Nat.reduceLT, Nat.reduceBEq, ↓reduceIte, Int.reduceLE, Int.reduceLT, Int.reduceToNat, Int.reduceNeg, reduceCtorEq, Int.reduceEq, SF0, SF1, SF2, DHb0, DHb1, DHa0, DCg0, DCe0, DCe1, DCe2, DDb0, DBc0, DBc1, DDe0, DAlh0, DAlv0]
    refine awp_draw (bl := []) T_tt mixed 14 (by decide) (by kernel_rfl) (.inr ⟨by kernel_rfl, by kernel_rfl⟩) (by kernel_rfl) ?_
    simp (disch := omega) only [SX0, SX1, SX2, SX3, SX4, SX5, SX6, SX7, SX8, SU0, SY0, SY1, Nat.reduceAdd, Nat.reduceMul, Nat.reduceSub, Nat.reduceLeDiff, Nat.reduceEqDiff, Nat.reduceLT, Nat.reduceBEq, ↓reduceIte, Int.reduceLE, Int.reduceLT, Int.reduceToNat, Int.reduceNeg, reduceCtorEq, Int.reduceEq, SF0, SF1, SF2, DHb0, DHb1, DHa0, DCg0, DCe0, DCe1, DCe2, DDb0, DBc0, DBc1, DDe0, DAlh0, DAlv0]
    refine br_dec (fun h2 => ?_) (fun h2 => ?_)
    · obtain ⟨j, rfl⟩ : ∃ m, j = m + 1 := ⟨j - 1, by omega⟩
      obtain ⟨y, hy⟩ := get_lt (l := P) (i := j) (by omega)
      have hgx := insAt_get (x := x) (rest := rest) hj
      have hgy := insAt_get1 (x := x) (rest := rest) hy
      have hyD := hDP y (List.mem_of_getElem? hy)
      have hsw := insAt_swap (x := x) (rest := rest) hy
      have e1 : (((j + 1 : Nat) : Int) - 1) = (j : Int) := by omega
      simp (disch := omega) only [SX0, SX1, SX2, SX3, SX4, SX5, SX6, SX7, SX8, SU0, SY0, SY1, Nat.reduceAdd, Nat.reduceMul, Nat.reduceSub, Nat.reduceLeDiff, Nat.reduceEqDiff, Nat.reduceLT, Nat.reduceBEq, ↓reduceIte, Int.reduceLE, Int.reduceLT, Int.reduceToNat, Int.reduceNeg, reduceCtorEq, Int.reduceEq, SF0, SF1, SF2, DHb0, DHb1, DHa0, DCg0, DCe0, DCe1, DCe2, DDb0, DBc0, DBc1, DDe0, DAlh0, DAlv0, hgx, e1]
      refine req (by omega) ?_
      simp (disch := omega) only [SX0, SX1, SX2, SX3, SX4, SX5, SX6, SX7, SX8, SU0, SY0, SY1, Nat.reduceAdd, Nat.reduceMul, Nat.reduceSub, Nat.reduceLeDiff, Nat.reduceEqDiff, Nat.reduceLT, Nat.reduceBEq, ↓reduceIte, Int.reduceLE, Int.reduceLT, Int.reduceToNat, Int.reduceNeg, reduceCtorEq, Int.reduceEq, SF0, SF1, SF2, DHb0, DHb1, DHa0, DCg0, DCe0, DCe1, DCe2, DDb0, DBc0, DBc1, DDe0, DAlh0, DAlv0, hgx, hgy, e1]
      refine req (by omega) ?_
      simp (disch := omega) only [SX0, SX1, SX2, SX3, SX4, SX5, SX6, SX7, SX8, SU0, SY0, SY1, Nat.reduceAdd, Nat.reduceMul, Nat.reduceSub, Nat.reduceLeDiff, Nat.reduceEqDiff, Nat.reduceLT, Nat.reduceBEq, ↓reduceIte, Int.reduceLE, Int.reduceLT, Int.reduceToNat, Int.reduceNeg, reduceCtorEq, Int.reduceEq, SF0, SF1, SF2, DHb0, DHb1, DHa0, DCg0, DCe0, DCe1, DCe2, DDb0, DBc0, DBc1, DDe0, DAlh0, DAlv0, hgx, hgy, e1]
      refine acall_cl (hf x y hxD hyD (hEx y (List.mem_of_getElem? hy))) [1] [] (by simp [keepL, nameIn, OB.ren, freeL_ren' _ _ hfr]) (by decide) (by decide) (by rfl) (by simp [AV.ren, nameIn]) ?_
      rintro _ _ ⟨c, rfl, hc, rfl⟩
      simp (disch := omega) only [SX0, SX1, SX2, SX3, SX4, SX5, SX6, SX7, SX8, SU0, SY0, SY1, Nat.reduceAdd, Nat.reduceMul, Nat.reduceSub, Nat.reduceLeDiff, Nat.reduceEqDiff, Nat.reduceLT, Nat.reduceBEq, ↓reduceIte, Int.reduceLE, Int.reduceLT, Int.reduceToNat, Int.reduceNeg, reduceCtorEq, Int.reduceEq, SF0, SF1, SF2, DHb0, DHb1, DHa0, DCg0, DCe0, DCe1, DCe2, DDb0, DBc0, DBc1, DDe0, DAlh0, DAlv0]
      refine br_dec (fun h3 => ?_) (fun h3 => ?_)
      · simp (disch := omega) only [SX0, SX1, SX2, SX3, SX4, SX5, SX6, SX7, SX8, SU0, SY0, SY1, Nat.reduceAdd, Nat.reduceMul, Nat.reduceSub, Nat.reduceLeDiff, Nat.reduceEqDiff, Nat.reduceLT, Nat.reduceBEq, ↓reduceIte, Int.reduceLE, Int.reduceLT, Int.reduceToNat, Int.reduceNeg, reduceCtorEq, Int.reduceEq, SF0, SF1, SF2, DHb0, DHb1, DHa0, DCg0, DCe0, DCe1, DCe2, DDb0, DBc0, DBc1, DDe0, DAlh0, DAlv0]
        refine awp_floatG (bl := []) T_tt mixed [0, 1] [0, 1, 2, 3, 4, 5, 6, 7, 8, 9, 10, 11, 12, 13, 14, 16] [0, 1, 2, 3, 4, 5, 6, 7, 8, 9, 10, 11, 12, 13, 14] [⟨15, [0, 1], [(0, .f 37), (1, .f 38), (5, .f 42), (6, .f 43), (7, .f 44), (8, .f 45), (9, .f 46), (10, .f 47), (11, .f 48), (12, .f 49), (13, .f 50), (14, .f 51)], [16], [(2, .f 39), (3, .f 40), (4, .f 41)]⟩, ⟨17, [0, 1], [(2, .f 39), (3, .f 40), (4, .f 41), (16, .f 52)], [], []⟩] [] (by kernel_rfl) (by kernel_rfl) ?_
        simp (disch := omega) only [SX0, SX1, SX2, SX3, SX4, SX5, SX6, SX7, SX8, SU0, SY0, SY1, Nat.reduceAdd, Nat.reduceMul, Nat.reduceSub, Nat.reduceLeDiff, Nat.reduceEqDiff, Nat.reduceLT, Nat.reduceBEq, ↓reduceIte, Int.reduceLE, Int.reduceLT, Int.reduceToNat, Int.reduceNeg, reduceCtorEq, Int.reduceEq, SF0, SF1, SF2, DHb0, DHb1, DHa0, DCg0, DCe0, DCe1, DCe2, DDb0, DBc0, DBc1, DDe0, DAlh0, DAlv0, SX0, hgx, hgy, e1, hren]
        have hs2 : ((List.map (fun x => [AV.val (.int .i64 x)]) (insAt P x rest (j + 1))).set (j + 1) [AV.val (.int .i64 y)])[j]? = some [.val (.int .i64 y)] := by
          rw [List.getElem?_set_ne (by omega), List.getElem?_map, hgy]; rfl
        have hs3 : ((List.map (fun x => [AV.val (.int .i64 x)]) (insAt P x rest (j + 1))).set (j + 1) [AV.val (.int .i64 y)]).set j [AV.val (.int .i64 x)] = ints (insAt P x rest j) := by
          rw [← hsw]; simp [ints, List.map_set]
        have hln : ((List.map (fun x => [AV.val (.int .i64 x)]) (insAt P x rest (j + 1))).set (j + 1) [AV.val (.int .i64 y)]).length = S.length := by simp; omega
        repeat (first | refine req (by omega) ?_ | simp (disch := omega) only [SX0, SX1, SX2, SX3, SX4, SX5, SX6, SX7, SX8, SU0, SY0, SY1, Nat.reduceAdd, Nat.reduceMul, Nat.reduceSub, Nat.reduceLeDiff, Nat.reduceEqDiff, Nat.reduceLT, Nat.reduceBEq, ↓reduceIte, Int.reduceLE, Int.reduceLT, Int.reduceToNat, Int.reduceNeg, reduceCtorEq, Int.reduceEq, SF0, SF1, SF2, DHb0, DHb1, DHa0, DCg0, DCe0, DCe1, DCe2, DDb0, DBc0, DBc1, DDe0, DAlh0, DAlv0, SX0, hgx, hgy, e1, hs2, hs3])
        refine ⟨j, ⟨by omega, fun z hz => ?_⟩, by omega, ?_⟩
        · rw [drop_consB hy] at hz
          rcases List.mem_cons.1 hz with rfl | hz
          · exact hc.1 h3
          · exact hjl z hz
        (refine wk_le ?_ ?_ ?_; (focus (simp [W8, leTm, leAV, AV.under, underL, ints, hcs]; done)); (focus (simp [leL, OB.under, underL, AV.under, ints, hcs]; done)); (focus (simp; done)))
      · simp (disch := omega) only [SX0, SX1, SX2, SX3, SX4, SX5, SX6, SX7, SX8, SU0, SY0, SY1, Nat.reduceAdd, Nat.reduceMul, Nat.reduceSub, Nat.reduceLeDiff, Nat.reduceEqDiff, Nat.reduceLT, Nat.reduceBEq, ↓reduceIte, Int.reduceLE, Int.reduceLT, Int.reduceToNat, Int.reduceNeg, reduceCtorEq, Int.reduceEq, SF0, SF1, SF2, DHb0, DHb1, DHa0, DCg0, DCe0, DCe1, DCe2, DDb0, DBc0, DBc1, DDe0, DAlh0, DAlv0, hren]
        refine ⟨(insAt P x rest (j + 1), i + 1), ⟨((insAt_perm P x rest (j + 1)).trans (insAt_perm P x rest i).symm).trans hp, by simp only []; omega, by simp only []; omega, ?_, (hnew (j + 1) hj).1, (hnew (j + 1) hj).2⟩, by simp only []; omega, ?_⟩
        · simp only
          rw [← hPl, insAt_take P x rest hj]
          refine srt_ins hg hj hDP hxD hs hjl fun z _ hz => ?_
          rw [Nat.add_sub_cancel, hy] at hz
          cases hz
          exact fun h => h3 (hc.2 h)
        (refine wk_le ?_ ?_ ?_; (focus (simp [W8, leTm, leAV, AV.under, underL, ints, hcs]; done)); (focus (simp [leL, OB.under, underL, AV.under, ints, hcs]; done)); (focus (simp; done)))
    · have j0 : j = 0 := by omega
      simp (disch := omega) only [SX0, SX1, SX2, SX3, SX4, SX5, SX6, SX7, SX8, SU0, SY0, SY1, Nat.reduceAdd, Nat.reduceMul, Nat.reduceSub, Nat.reduceLeDiff, Nat.reduceEqDiff, Nat.reduceLT, Nat.reduceBEq, ↓reduceIte, Int.reduceLE, Int.reduceLT, Int.reduceToNat, Int.reduceNeg, reduceCtorEq, Int.reduceEq, SF0, SF1, SF2, DHb0, DHb1, DHa0, DCg0, DCe0, DCe1, DCe2, DDb0, DBc0, DBc1, DDe0, DAlh0, DAlv0]
      refine ⟨(insAt P x rest j, i + 1), ⟨((insAt_perm P x rest j).trans (insAt_perm P x rest i).symm).trans hp, by simp only []; omega, by simp only []; omega, ?_, (hnew j hj).1, (hnew j hj).2⟩, by simp only []; omega, ?_⟩
      · simp only
        rw [← hPl, insAt_take P x rest hj]
        exact srt_ins hg hj hDP hxD hs hjl (fun y hy => absurd j0 hy)
      (refine wk_le ?_ ?_ ?_; (focus (simp [W8, leTm, leAV, AV.under, underL, ints, hcs]; done)); (focus (simp [leL, OB.under, underL, AV.under, ints, hcs]; done)); (focus (simp; done)))
  · simp (disch := omega) only [SX0, SX1, SX2, SX3, SX4, SX5, SX6, SX7, SX8, SU0, SY0, SY1, Nat.reduceAdd, Nat.reduceMul, Nat.reduceSub, Nat.reduceLeDiff, Nat.reduceEqDiff, Nat.reduceLT, Nat.reduceBEq, ↓reduceIte, Int.reduceLE, Int.reduceLT, Int.reduceToNat, Int.reduceNeg, reduceCtorEq, Int.reduceEq, SF0, SF1, SF2, DHb0, DHb1, DHa0, DCg0, DCe0, DCe1, DCe2, DDb0, DBc0, DBc1, DDe0, DAlh0, DAlv0]
    refine fin_ks [0, 1] (.tup []) [.vec 1 (ints S2), .cells cs] ⟨rfl, S2, rfl, hp, ?_⟩ rfl (by simp [keepL, nameK, OB.ren, ints, freeL_ren' _ _ hfr]) (by simp) (by simp) (by simp)
    rcases Nat.lt_or_ge i S2.length with h | h
    · exfalso; omega
    · rwa [List.take_of_length_le h] at hs

theorem e_stableIE : Enters Try.prog 162 := enters_of Try.func162 (by kernel_rfl) (by kernel_rfl)
set_option maxRecDepth 8000 in
set_option maxHeartbeats 4000000 in
theorem stableIE_c (f : FuncId) (cs : List AV) (g : Int → Int → Int) (D : Int → Prop) (hg : CmpOk g D) (hcs : ∀ m, underL m cs = true) (hfr : freeL cs = true) (E : Int → Int → Prop) (hf : ∀ x y, D x → D y → E x y → ACalls Try.prog f [.val (.int .i64 x), .val (.int .i64 y), .ptr 0 0] [.cells cs] [0] (fun r L => ∃ c, r = .val (.int .i64 c) ∧ (c < 0 ↔ g x y < 0) ∧ L = [.cells cs]))
    (S : List Int) (hS : ∀ x ∈ S, D x) (hE : S.Pairwise fun y x => E x y) (hl : S.length < 20) : ACalls Try.prog 162 [.os 0 1 0 S.length, .val (.int .i64 S.length), .fn f [.ptr 1 0]] [.vec 1 (ints S), .cells cs] [0, 1] (fun r L => r = .tup [] ∧ ∃ S', L = [.vec 1 (ints S'), .cells cs] ∧ S'.Perm S ∧ srt g S') := by
  have I := insSortE_c f cs g D hg hcs hfr E hf S hS hE (by omega)
  refine acalls_tm T_tt Try.func162 rfl e_stableIE 60 rfl (W8 _ _ _ .any .any .any .any .any (W8 .any .any .any .any .any .any .any .any (W8 .any .any .any .any .any .any .any .any (W8 .any .any .any .any .any .any .any .any (W8 .any .any .any .any .any .any .any .any (W8 .any .any .any .any .any .any .any .any (W8 .any .any .any .any .any .any .any .any [.any, .any, .any, .any, .any, .any, .any]))))))) rfl (rv := []) rfl (sx_sound (bl := []) T_tt _ _ _ ?_)
  simp (disch := omega) only [SX0, SX1, SX2, SX3, SX4, SX5, SX6, SX7, SX8, SU0, SY0, SY1, Nat.reduceAdd, Nat.reduceMul, Nat.reduceSub, Nat.reduceLeDiff, Nat.reduceEqDiff, Nat.reduceLT, Nat.reduceBEq, ↓reduceIte, Int.reduceLE, Int.reduceLT, Int.reduceToNat, Int.reduceNeg, reduceCtorEq, Int.reduceEq, SF0, SF1, SF2, DHb0, DHb1, DHa0, DCg0, DCe0, DCe1, DCe2, DDb0, DBc0, DBc1, DDe0, DAlh0, DAlv0]
  with_reducible refine awp_loop_h (G := Unit) 9 54 (fun _ => []) (fun _ => [.vec 1 (ints S), .cells cs]) (fun _ => True) (fun _ => 0) () trivial ?_ (fun _ _ => sx_sound (bl := []) T_tt _ _ _ ?_)
  · simp (disch := omega) only [SX0, SX1, SX2, SX3, SX4, SX5, SX6, SX7, SX8, SU0, SY0, SY1, Nat.reduceAdd, Nat.reduceMul, Nat.reduceSub, Nat.reduceLeDiff, Nat.reduceEqDiff, Nat.reduceLT, Nat.reduceBEq, ↓reduceIte, Int.reduceLE, Int.reduceLT, Int.reduceToNat, Int.reduceNeg, reduceCtorEq, Int.reduceEq, SF0, SF1, SF2, DHb0, DHb1, DHa0, DCg0, DCe0, DCe1, DCe2, DDb0, DBc0, DBc1, DDe0, DAlh0, DAlv0]
    (refine wk_le ?_ ?_ ?_; (focus (simp [W8, leTm, leAV, AV.under, underL, ints, hcs]; done)); (focus (simp [leL, OB.under, underL, AV.under, ints, hcs]; done)); (focus (simp; done)))
  simp (disch := omega) only [SX0, SX1, SX2, SX3, SX4, SX5, SX6, SX7, SX8, SU0, SY0, SY1, Nat.reduceAdd, Nat.reduceMul, Nat.reduceSub, Nat.reduceLeDiff, Nat.reduceEqDiff, Nat.reduceLT, Nat.reduceBEq, ↓reduceIte, Int.reduceLE, Int.reduceLT, Int.reduceToNat, Int.reduceNeg, reduceCtorEq, Int.reduceEq, SF0, SF1, SF2, DHb0, DHb1, DHa0, DCg0, DCe0, DCe1, DCe2, DDb0, DBc0, DBc1, DDe0, DAlh0, DAlv0]
  refine br_dec (fun h => by omega) (fun _ => ?_)
  simp (disch := omega) only [SX0, SX1, SX2, SX3, SX4, SX5, SX6, SX7, SX8, SU0, SY0, SY1, Nat.reduceAdd, Nat.reduceMul, Nat.reduceSub, Nat.reduceLeDiff, Nat.reduceEqDiff, Nat.reduceLT, Nat.reduceBEq, ↓reduceIte, Int.reduceLE, Int.reduceLT, Int.reduceToNat, Int.reduceNeg, reduceCtorEq, Int.reduceEq, SF0, SF1, SF2, DHb0, DHb1, DHa0, DCg0, DCe0, DCe1, DCe2, DDb0, DBc0, DBc1, DDe0, DAlh0, DAlv0]
  refine acall_own I [0, 1] [] (by simp [keepL, nameIn, OB.ren, freeL_ren' _ _ hfr, ints]) (by decide) (by decide) (by rfl) (by simp [AV.ren, nameIn, renL]) ?_
  rintro _ _ ⟨rfl, S', rfl, hp, hs⟩
  have hren : ∀ f, renL f cs = cs := fun f => freeL_rend f hfr
  have hlp := hp.length_eq
  simp (disch := omega) only [SX0, SX1, SX2, SX3, SX4, SX5, SX6, SX7, SX8, SU0, SY0, SY1, Nat.reduceAdd, Nat.reduceMul, Nat.reduceSub, Nat.reduceLeDiff, Nat.reduceEqDiff, Nat.reduceLT, Nat.reduceBEq, ↓reduceIte, Int.reduceLE, Int.reduceLT, Int.reduceToNat, Int.reduceNeg, reduceCtorEq, Int.reduceEq, SF0, SF1, SF2, DHb0, DHb1, DHa0, DCg0, DCe0, DCe1, DCe2, DDb0, DBc0, DBc1, DDe0, DAlh0, DAlv0, hren]
  with_reducible refine awp_loop_h (G := Unit) 9 54 (fun _ => []) (fun _ => [.vec 1 (ints S'), .cells cs]) (fun _ => True) (fun _ => 0) () trivial ?_ (fun _ _ => sx_sound (bl := []) T_tt _ _ _ ?_)
  · simp (disch := omega) only [SX0, SX1, SX2, SX3, SX4, SX5, SX6, SX7, SX8, SU0, SY0, SY1, Nat.reduceAdd, Nat.reduceMul, Nat.reduceSub, Nat.reduceLeDiff, Nat.reduceEqDiff, Nat.reduceLT, Nat.reduceBEq, ↓reduceIte, Int.reduceLE, Int.reduceLT, Int.reduceToNat, Int.reduceNeg, reduceCtorEq, Int.reduceEq, SF0, SF1, SF2, DHb0, DHb1, DHa0, DCg0, DCe0, DCe1, DCe2, DDb0, DBc0, DBc1, DDe0, DAlh0, DAlv0]
    (refine wk_le ?_ ?_ ?_; (focus (simp [W8, leTm, leAV, AV.under, underL, ints, hcs, hren]; done)); (focus (simp [leL, OB.under, underL, AV.under, ints, hcs, hren]; done)); (focus (simp; done)))
  simp (disch := omega) only [SX0, SX1, SX2, SX3, SX4, SX5, SX6, SX7, SX8, SU0, SY0, SY1, Nat.reduceAdd, Nat.reduceMul, Nat.reduceSub, Nat.reduceLeDiff, Nat.reduceEqDiff, Nat.reduceLT, Nat.reduceBEq, ↓reduceIte, Int.reduceLE, Int.reduceLT, Int.reduceToNat, Int.reduceNeg, reduceCtorEq, Int.reduceEq, SF0, SF1, SF2, DHb0, DHb1, DHa0, DCg0, DCe0, DCe1, DCe2, DDb0, DBc0, DBc1, DDe0, DAlh0, DAlv0]
  refine br_dec (fun h => by omega) (fun _ => ?_)
  simp (disch := omega) only [SX0, SX1, SX2, SX3, SX4, SX5, SX6, SX7, SX8, SU0, SY0, SY1, Nat.reduceAdd, Nat.reduceMul, Nat.reduceSub, Nat.reduceLeDiff, Nat.reduceEqDiff, Nat.reduceLT, Nat.reduceBEq, ↓reduceIte, Int.reduceLE, Int.reduceLT, Int.reduceToNat, Int.reduceNeg, reduceCtorEq, Int.reduceEq, SF0, SF1, SF2, DHb0, DHb1, DHa0, DCg0, DCe0, DCe1, DCe2, DDb0, DBc0, DBc1, DDe0, DAlh0, DAlv0]
  exact fin_ks [0, 1] (.tup []) [.vec 1 (ints S'), .cells cs] ⟨rfl, S', rfl, hp, hs⟩ rfl (by simp [keepL, nameK, OB.ren, ints, freeL_ren' _ _ hfr]) (by simp) (by simp) (by simp)

theorem e_sortStableIE : Enters Try.prog 154 := enters_of Try.func154 (by kernel_rfl) (by kernel_rfl)
theorem sortStableIE_c (f : FuncId) (cs : List AV) (g : Int → Int → Int) (D : Int → Prop) (hg : CmpOk g D) (hcs : ∀ m, underL m cs = true) (hfr : freeL cs = true) (E : Int → Int → Prop) (hf : ∀ x y, D x → D y → E x y → ACalls Try.prog f [.val (.int .i64 x), .val (.int .i64 y), .ptr 0 0] [.cells cs] [0] (fun r L => ∃ c, r = .val (.int .i64 c) ∧ (c < 0 ↔ g x y < 0) ∧ L = [.cells cs]))
    (S : List Int) (hS : ∀ x ∈ S, D x) (hE : S.Pairwise fun y x => E x y) (hl : S.length < 20) : ACalls Try.prog 154 [.os 0 1 0 S.length, .fn f [.ptr 1 0]] [.vec 1 (ints S), .cells cs] [0, 1] (fun r L => r = .tup [] ∧ ∃ S', L = [.vec 1 (ints S'), .cells cs] ∧ S'.Perm S ∧ srt g S') := by
  have I := stableIE_c f cs g D hg hcs hfr E hf S hS hE hl
  have hren : ∀ f, renL f cs = cs := fun f => freeL_rend f hfr
  refine acalls_tm T_tt Try.func154 rfl e_sortStableIE 7 rfl (W8 _ _ .any .any .any .any .any .any [.any]) rfl (rv := []) rfl (sx_sound (bl := []) T_tt _ _ _ ?_)
  simp (disch := omega) only [SX0, SX1, SX2, SX3, SX4, SX5, SX6, SX7, SX8, SU0, SY0, SY1, Nat.reduceAdd, Nat.reduceMul, Nat.reduceSub, Nat.reduceLeDiff, Nat.reduceEqDiff, Nat.reduceLT, Nat.reduceBEq, ↓reduceIte, Int.reduceLE, Int.reduceLT, Int.reduceToNat, Int.reduceNeg, reduceCtorEq, Int.reduceEq, SF0, SF1, SF2, DHb0, DHb1, DHa0, DCg0, DCe0, DCe1, DCe2, DDb0, DBc0, DBc1, DDe0, DAlh0, DAlv0]
  refine acall_own I [0, 1] [] (by simp [keepL, nameIn, OB.ren, freeL_ren' _ _ hfr, ints]) (by decide) (by decide) (by rfl) (by simp [AV.ren, nameIn, renL]) ?_
  rintro _ _ ⟨rfl, S', rfl, hp, hs⟩
  simp (disch := omega) only [SX0, SX1, SX2, SX3, SX4, SX5, SX6, SX7, SX8, SU0, SY0, SY1, Nat.reduceAdd, Nat.reduceMul, Nat.reduceSub, Nat.reduceLeDiff, Nat.reduceEqDiff, Nat.reduceLT, Nat.reduceBEq, ↓reduceIte, Int.reduceLE, Int.reduceLT, Int.reduceToNat, Int.reduceNeg, reduceCtorEq, Int.reduceEq, SF0, SF1, SF2, DHb0, DHb1, DHa0, DCg0, DCe0, DCe1, DCe2, DDb0, DBc0, DBc1, DDe0, DAlh0, DAlv0, hren]
  exact fin_ks [0, 1] (.tup []) [.vec 1 (ints S'), .cells cs] ⟨rfl, S', rfl, hp, hs⟩ rfl (by simp [keepL, nameK, OB.ren, ints, freeL_ren' _ _ hfr]) (by simp) (by simp) (by simp)

def upTo (n : Nat) : List Int := (List.range n).map fun i : Nat => (i : Int)
theorem upTo_len (n : Nat) : (upTo n).length = n := by simp [upTo]

def fillN (n i : Nat) : List Int := (List.range n).map fun j : Nat => if j < i then (j : Int) else 0
theorem fillN_zero (n : Nat) : ints (fillN n 0) = List.replicate n [.val (.int .i64 0)] := by
  apply List.ext_getElem <;> simp [fillN, ints]
theorem fillN_all (n : Nat) : fillN n n = upTo n := by
  unfold fillN upTo
  refine List.map_congr_left fun j hj => ?_
  rw [if_pos (List.mem_range.1 hj)]
theorem fillN_len (n i : Nat) : (fillN n i).length = n := by simp [fillN]
theorem fillN_get {n i : Nat} (h : i < n) : (fillN n i)[i]? = some 0 := by simp [fillN, h]
theorem fillN_set {n i : Nat} (h : i < n) : (fillN n i).set i (i : Int) = fillN n (i + 1) := by
  apply List.ext_getElem
  · simp [fillN]
  · intro j h1 h2
    rw [List.getElem_set]
    by_cases e : i = j
    · subst e; simp [fillN]
    · rw [if_neg e]
      simp only [fillN, List.getElem_map, List.getElem_range]
      by_cases c : j < i
      · rw [if_pos c, if_pos (by omega)]
      · rw [if_neg c, if_neg (by omega)]

theorem upTo_asc (n : Nat) : (upTo n).Pairwise fun y x => y < x := by
  unfold upTo
  rw [List.pairwise_map]
  exact List.pairwise_lt_range.imp fun h => by omega

theorem e_indicesByE : Enters Try.prog 130 := enters_of Try.func130 (by kernel_rfl) (by kernel_rfl)
set_option maxHeartbeats 1000000 in
theorem indicesByE_c (f : FuncId) (cs : List AV) (g : Int → Int → Int) (n : Nat) (hn : n < 20) (hg : CmpOk g (fun x => 0 ≤ x ∧ x < n)) (hcs : ∀ m, underL m cs = true) (hfr : freeL cs = true) (hf : ∀ x y, (0 ≤ x ∧ x < (n : Int)) → (0 ≤ y ∧ y < (n : Int)) → y < x → ACalls Try.prog f [.val (.int .i64 x), .val (.int .i64 y), .ptr 0 0] [.cells cs] [0] (fun r L => ∃ c, r = .val (.int .i64 c) ∧ (c < 0 ↔ g x y < 0) ∧ L = [.cells cs])) :
    ACalls Try.prog 130 [.val (.int .i64 n), .fn f [.ptr 0 0]] [.cells cs] [0] (fun r L => ∃ S', r = .os 1 1 0 n ∧ L = [.cells cs, .vec 1 (ints S')] ∧ S'.Perm (upTo n) ∧ srt g S') := by
  have I := sortStableIE_c f cs g _ hg hcs hfr (fun x y => y < x) hf (upTo n) (fun x hx => by
    obtain ⟨i, hi, rfl⟩ := List.mem_map.1 hx
    have := List.mem_range.1 hi
    exact ⟨by omega, by omega⟩) (upTo_asc n) (by rw [upTo_len]; exact hn)
  rw [upTo_len] at I
  have hren : ∀ f, renL f cs = cs := fun f => freeL_rend f hfr
  refine acalls_tm T_tt Try.func130 rfl e_indicesByE 21 rfl (W8 _ _ .any .any .any .any .any .any (W8 .any .any .any .any .any .any .any .any [.any, .any, .any, .any, .any, .any, .any])) rfl (rv := [.tmp 4]) rfl (sx_sound (bl := []) T_tt _ _ _ ?_)
  simp (disch := omega) only [SX0, SX1, SX2, SX3, SX4, SX5, SX6, SX7, SX8, SU0, SY0, SY1, Nat.reduceAdd, Nat.reduceMul, Nat.reduceSub, Nat.reduceLeDiff, Nat.reduceEqDiff, Nat.reduceLT, Nat.reduceBEq, ↓reduceIte, Int.reduceLE, Int.reduceLT, Int.reduceToNat, Int.reduceNeg, reduceCtorEq, Int.reduceEq, SF0, SF1, SF2, DHb0, DHb1, DHa0, DCg0, DCe0, DCe1, DCe2, DDb0, DBc0, DBc1, DDe0, DAlh0, DAlv0]
  refine req (by omega) ?_
  simp (disch := omega) only [SX0, SX1, SX2, SX3, SX4, SX5, SX6, SX7, SX8, SU0, SY0, SY1, Nat.reduceAdd, Nat.reduceMul, Nat.reduceSub, Nat.reduceLeDiff, Nat.reduceEqDiff, Nat.reduceLT, Nat.reduceBEq, ↓reduceIte, Int.reduceLE, Int.reduceLT, Int.reduceToNat, Int.reduceNeg, reduceCtorEq, Int.reduceEq, SF0, SF1, SF2, DHb0, DHb1, DHa0, DCg0, DCe0, DCe1, DCe2, DDb0, DBc0, DBc1, DDe0, DAlh0, DAlv0]
  rw [← fillN_zero]
  with_reducible refine awp_loop_h (G := Nat) 6 17 (fun i => [(9, .os 1 1 0 n), (10, .val (.int .i64 n)), (11, .val (.int .i64 i))]) (fun i => [.cells cs, .vec 1 (ints (fillN n i))]) (fun i => i ≤ n) (fun i => n - i) 0 (Nat.zero_le _) ?_ (fun i hi => ?_)
  · simp (disch := omega) only [SX0, SX1, SX2, SX3, SX4, SX5, SX6, SX7, SX8, SU0, SY0, SY1, Nat.reduceAdd, Nat.reduceMul, Nat.reduceSub, Nat.reduceLeDiff, Nat.reduceEqDiff, Nat.reduceLT, Nat.reduceBEq, ↓reduceIte, Int.reduceLE, Int.reduceLT, Int.reduceToNat, Int.reduceNeg, reduceCtorEq, Int.reduceEq, SF0, SF1, SF2, DHb0, DHb1, DHa0, DCg0, DCe0, DCe1, DCe2, DDb0, DBc0, DBc1, DDe0, DAlh0, DAlv0]
    (refine wk_le ?_ ?_ ?_; (focus (simp [W8, leTm, leAV, AV.under, underL, ints, hcs]; done)); (focus (simp [leL, OB.under, underL, AV.under, ints, hcs]; done)); (focus (simp; done)))
  have hfl := fillN_len n i
  refine sx_sound (bl := []) T_tt _ _ _ ?_
  simp (disch := omega) only [SX0, SX1, SX2, SX3, SX4, SX5, SX6, SX7, SX8, SU0, SY0, SY1, Nat.reduceAdd, Nat.reduceMul, Nat.reduceSub, Nat.reduceLeDiff, Nat.reduceEqDiff, Nat.reduceLT, Nat.reduceBEq, ↓reduceIte, Int.reduceLE, Int.reduceLT, Int.reduceToNat, Int.reduceNeg, reduceCtorEq, Int.reduceEq, SF0, SF1, SF2, DHb0, DHb1, DHa0, DCg0, DCe0, DCe1, DCe2, DDb0, DBc0, DBc1, DDe0, DAlh0, DAlv0]
  refine br_dec (fun h1 => ?_) (fun h1 => ?_)
  · have hg0 := fillN_get (n := n) (i := i) (by omega)
    have hs0 : (List.map (fun x => [AV.val (.int .i64 x)]) (fillN n i)).set i [.val (.int .i64 i)] = ints (fillN n (i + 1)) := by rw [← fillN_set (by omega)]; simp [ints, List.map_set]
    simp (disch := omega) only [SX0, SX1, SX2, SX3, SX4, SX5, SX6, SX7, SX8, SU0, SY0, SY1, Nat.reduceAdd, Nat.reduceMul, Nat.reduceSub, Nat.reduceLeDiff, Nat.reduceEqDiff, Nat.reduceLT, Nat.reduceBEq, ↓reduceIte, Int.reduceLE, Int.reduceLT, Int.reduceToNat, Int.reduceNeg, reduceCtorEq, Int.reduceEq, SF0, SF1, SF2, DHb0, DHb1, DHa0, DCg0, DCe0, DCe1, DCe2, DDb0, DBc0, DBc1, DDe0, DAlh0, DAlv0]
    refine req (by omega) ?_
    simp (disch := omega) only [SX0, SX1, SX2, SX3, SX4, SX5, SX6, SX7, SX8, SU0, SY0, SY1, Nat.reduceAdd, Nat.reduceMul, Nat.reduceSub, Nat.reduceLeDiff, Nat.reduceEqDiff, Nat.reduceLT, Nat.reduceBEq, ↓reduceIte, Int.reduceLE, Int.reduceLT, Int.reduceToNat, Int.reduceNeg, reduceCtorEq, Int.reduceEq, SF0, SF1, SF2, DHb0, DHb1, DHa0, DCg0, DCe0, DCe1, DCe2, DDb0, DBc0, DBc1, DDe0, DAlh0, DAlv0, hg0, hs0]
    refine ⟨i + 1, by omega, by omega, ?_⟩
    (refine wk_le ?_ ?_ ?_; (focus (simp [W8, leTm, leAV, AV.under, underL, ints, hcs]; done)); (focus (simp [leL, OB.under, underL, AV.under, ints, hcs]; done)); (focus (simp; done)))
  · have hin : i = n := by omega
    subst hin
    rw [fillN_all]
    simp (disch := omega) only [SX0, SX1, SX2, SX3, SX4, SX5, SX6, SX7, SX8, SU0, SY0, SY1, Nat.reduceAdd, Nat.reduceMul, Nat.reduceSub, Nat.reduceLeDiff, Nat.reduceEqDiff, Nat.reduceLT, Nat.reduceBEq, ↓reduceIte, Int.reduceLE, Int.reduceLT, Int.reduceToNat, Int.reduceNeg, reduceCtorEq, Int.reduceEq, SF0, SF1, SF2, DHb0, DHb1, DHa0, DCg0, DCe0, DCe1, DCe2, DDb0, DBc0, DBc1, DDe0, DAlh0, DAlv0]
    refine acall_own I [1, 0] [] (by simp [keepL, nameIn, OB.ren, freeL_ren' _ _ hfr, ints]) (by decide) (by decide) (by rfl) (by simp [AV.ren, nameIn, renL]) ?_
    rintro _ _ ⟨rfl, S', rfl, hp, hs⟩
    simp (disch := omega) only [SX0, SX1, SX2, SX3, SX4, SX5, SX6, SX7, SX8, SU0, SY0, SY1, Nat.reduceAdd, Nat.reduceMul, Nat.reduceSub, Nat.reduceLeDiff, Nat.reduceEqDiff, Nat.reduceLT, Nat.reduceBEq, ↓reduceIte, Int.reduceLE, Int.reduceLT, Int.reduceToNat, Int.reduceNeg, reduceCtorEq, Int.reduceEq, SF0, SF1, SF2, DHb0, DHb1, DHa0, DCg0, DCe0, DCe1, DCe2, DDb0, DBc0, DBc1, DDe0, DAlh0, DAlv0, hren]
    exact fin_ks [0, 1] (.os 1 1 0 i) [.cells cs, .vec 1 (ints S')] ⟨S', rfl, rfl, hp, hs⟩ (by simp [AV.ren, nameK]) (by simp [keepL, nameK, OB.ren, ints, freeL_ren' _ _ hfr]) (by simp) (by simp) (by simp)

end Go.Pc
