/- Stable sorting of less than 40 numbers. -/
import Derived.Test.YtkcpcmobmalijaaBtd
import Derived.Test.YtkcpcmobmalijaaBtc
set_option linter.unusedSimpArgs false
set_option linter.unusedVariables false
namespace Go.Pc
open Go Go.Proofs

theorem insSortR0_c (f : FuncId) (cs : List AV) (g : Int → Int → Int) (D : Int → Prop) (hg : CmpOk g D) (hcs : ∀ m, underL m cs = true) (hfr : freeL cs = true) (E : Int → Int → Prop) (hf : ∀ x y, D x → D y → E x y → ACalls Try.prog f [.val (.int .i64 x), .val (.int .i64 y), .ptr 0 0] [.cells cs] [0] (fun r L => ∃ c, r = .val (.int .i64 c) ∧ (c < 0 ↔ g x y < 0) ∧ L = [.cells cs]))
    (S : List Int) (hS : ∀ x ∈ S, D x) (hE : S.Pairwise fun y x => E x y) (hl : S.length ≤ 1000) : ACalls Try.prog 163 [.os 0 1 0 S.length, .val (.int .i64 0), .val (.int .i64 S.length), .fn f [.ptr 1 0]] [.vec 1 (ints S), .cells cs] [0, 1] (fun r L => r = .tup [] ∧ ∃ S', L = [.vec 1 (ints S'), .cells cs] ∧ S'.Perm S ∧ srt g S') := by
  have := insSortR_c f cs g D hg hcs hfr E hf [] S [] 0 S.length S.length hS hE rfl (by omega) rfl hl
  simp only [List.append_nil, List.nil_append] at this
  exact this

theorem e_stableIE : Enters Try.prog 162 := enters_of Try.func162 (by kernel_rfl) (by kernel_rfl)
set_option maxRecDepth 8000 in
set_option maxHeartbeats 4000000 in
theorem stableIE_c (f : FuncId) (cs : List AV) (g : Int → Int → Int) (D : Int → Prop) (hg : CmpOk g D) (hcs : ∀ m, underL m cs = true) (hfr : freeL cs = true) (E : Int → Int → Prop) (hf : ∀ x y, D x → D y → E x y → ACalls Try.prog f [.val (.int .i64 x), .val (.int .i64 y), .ptr 0 0] [.cells cs] [0] (fun r L => ∃ c, r = .val (.int .i64 c) ∧ (c < 0 ↔ g x y < 0) ∧ L = [.cells cs]))
    (S : List Int) (hS : ∀ x ∈ S, D x) (hE : S.Pairwise fun y x => E x y) (hl : S.length < 20) : ACalls Try.prog 162 [.os 0 1 0 S.length, .val (.int .i64 S.length), .fn f [.ptr 1 0]] [.vec 1 (ints S), .cells cs] [0, 1] (fun r L => r = .tup [] ∧ ∃ S', L = [.vec 1 (ints S'), .cells cs] ∧ S'.Perm S ∧ srt g S') := by
  have I := insSortR0_c f cs g D hg hcs hfr E hf S hS hE (by omega)
  refine acalls_tm T_tt Try.func162 rfl e_stableIE 60 rfl (W8 _ _ _ .any .any .any .any .any (W8 .any .any .any .any .any .any .any .any (W8 .any .any .any .any .any .any .any .any (W8 .any .any .any .any .any .any .any .any (W8 .any .any .any .any .any .any .any .any (W8 .any .any .any .any .any .any .any .any (W8 .any .any .any .any .any .any .any .any [.any, .any, .any, .any, .any, .any, .any]))))))) rfl (rv := []) rfl (sx_sound (bl := []) T_tt _ _ _ ?_)
  simp (disch := omega) only [SX0, SX1, SX2, SX3, SX4, SX5, SX6, SX7, SX8, SU0, SY0, SY1, Nat.reduceAdd, Nat.reduceMul, Nat.reduceSub, Nat.reduceLeDiff, Nat.reduceEqDiff, Nat.reduceLT, Nat.reduceBEq, ↓reduceIte, Int.reduceLE, Int.reduceLT, Int.reduceToNat, Int.reduceNeg, reduceCtorEq, Int.reduceEq, SF0, SF1, SF2, DHb0, DHb1, DHa0, DCg0, DCe0, DCe1, DCe2, DDb0, DBc0, DBc1, DDe0, DAlh0, DAlv0, DBtc0, DBtc1]
  with_reducible refine awp_loop_h (G := Unit) 9 54 (fun _ => []) (fun _ => [.vec 1 (ints S), .cells cs]) (fun _ => True) (fun _ => 0) () trivial ?_ (fun _ _ => sx_sound (bl := []) T_tt _ _ _ ?_)
  · simp (disch := omega) only [SX0, SX1, SX2, SX3, SX4, SX5, SX6, SX7, SX8, SU0, SY0, SY1, Nat.reduceAdd, Nat.reduceMul, Nat.reduceSub, Nat.reduceLeDiff, Nat.reduceEqDiff, Nat.reduceLT, Nat.reduceBEq, ↓reduceIte, Int.reduceLE, Int.reduceLT, Int.reduceToNat, Int.reduceNeg, reduceCtorEq, Int.reduceEq, SF0, SF1, SF2, DHb0, DHb1, DHa0, DCg0, DCe0, DCe1, DCe2, DDb0, DBc0, DBc1, DDe0, DAlh0, DAlv0, DBtc0, DBtc1]
    (refine wk_le ?_ ?_ ?_; (focus (simp [W8, leTm, leAV, AV.under, underL, ints, hcs]; done)); (focus (simp [leL, OB.under, underL, AV.under, ints, hcs]; done)); (focus (simp; done)))
  simp (disch := omega) only [SX0, SX1, SX2, SX3, SX4, SX5, SX6, SX7, SX8, SU0, SY0, SY1, Nat.reduceAdd, Nat.reduceMul, Nat.reduceSub, Nat.reduceLeDiff, Nat.reduceEqDiff, Nat.reduceLT, Nat.reduceBEq, ↓reduceIte, Int.reduceLE, Int.reduceLT, Int.reduceToNat, Int.reduceNeg, reduceCtorEq, Int.reduceEq, SF0, SF1, SF2, DHb0, DHb1, DHa0, DCg0, DCe0, DCe1, DCe2, DDb0, DBc0, DBc1, DDe0, DAlh0, DAlv0, DBtc0, DBtc1]
  refine br_dec (fun h => by omega) (fun _ => ?_)
  simp (disch := omega) only [SX0, SX1, SX2, SX3, SX4, SX5, SX6, SX7, SX8, SU0, SY0, SY1, Nat.reduceAdd, Nat.reduceMul, Nat.reduceSub, Nat.reduceLeDiff, Nat.reduceEqDiff, Nat.reduceLT, Nat.reduceBEq, ↓reduceIte, Int.reduceLE, Int.reduceLT, Int.reduceToNat, Int.reduceNeg, reduceCtorEq, Int.reduceEq, SF0, SF1, SF2, DHb0, DHb1, DHa0, DCg0, DCe0, DCe1, DCe2, DDb0, DBc0, DBc1, DDe0, DAlh0, DAlv0, DBtc0, DBtc1]
  refine acall_own I [0, 1] [] (by simp [keepL, nameIn, OB.ren, freeL_ren' _ _ hfr, ints]) (by decide) (by decide) (by rfl) (by simp [AV.ren, nameIn, renL]) ?_
  rintro _ _ ⟨rfl, S', rfl, hp, hs⟩
  have hren : ∀ f, renL f cs = cs := fun f => freeL_rend f hfr
  have hlp := hp.length_eq
  simp (disch := omega) only [SX0, SX1, SX2, SX3, SX4, SX5, SX6, SX7, SX8, SU0, SY0, SY1, Nat.reduceAdd, Nat.reduceMul, Nat.reduceSub, Nat.reduceLeDiff, Nat.reduceEqDiff, Nat.reduceLT, Nat.reduceBEq, ↓reduceIte, Int.reduceLE, Int.reduceLT, Int.reduceToNat, Int.reduceNeg, reduceCtorEq, Int.reduceEq, SF0, SF1, SF2, DHb0, DHb1, DHa0, DCg0, DCe0, DCe1, DCe2, DDb0, DBc0, DBc1, DDe0, DAlh0, DAlv0, DBtc0, DBtc1, hren]
  with_reducible refine awp_loop_h (G := Unit) 9 54 (fun _ => []) (fun _ => [.vec 1 (ints S'), .cells cs]) (fun _ => True) (fun _ => 0) () trivial ?_ (fun _ _ => sx_sound (bl := []) T_tt _ _ _ ?_)
  · simp (disch := omega) only [SX0, SX1, SX2, SX3, SX4, SX5, SX6, SX7, SX8, SU0, SY0, SY1, Nat.reduceAdd, Nat.reduceMul, Nat.reduceSub, Nat.reduceLeDiff, Nat.reduceEqDiff, Nat.reduceLT, Nat.reduceBEq, ↓reduceIte, Int.reduceLE, Int.reduceLT, Int.reduceToNat, Int.reduceNeg, reduceCtorEq, Int.reduceEq, SF0, SF1, SF2, DHb0, DHb1, DHa0, DCg0, DCe0, DCe1, DCe2, DDb0, DBc0, DBc1, DDe0, DAlh0, DAlv0, DBtc0, DBtc1]
    (refine wk_le ?_ ?_ ?_; (focus (simp [W8, leTm, leAV, AV.under, underL, ints, hcs, hren]; done)); (focus (simp [leL, OB.under, underL, AV.under, ints, hcs, hren]; done)); (focus (simp; done)))
  simp (disch := omega) only [SX0, SX1, SX2, SX3, SX4, SX5, SX6, SX7, SX8, SU0, SY0, SY1, Nat.reduceAdd, Nat.reduceMul, Nat.reduceSub, Nat.reduceLeDiff, Nat.reduceEqDiff, Nat.reduceLT, Nat.reduceBEq, ↓reduceIte, Int.reduceLE, Int.reduceLT, Int.reduceToNat, Int.reduceNeg, reduceCtorEq, Int.reduceEq, SF0, SF1, SF2, DHb0, DHb1, DHa0, DCg0, DCe0, DCe1, DCe2, DDb0, DBc0, DBc1, DDe0, DAlh0, DAlv0, DBtc0, DBtc1]
  refine br_dec (fun h => by omega) (fun _ => ?_)
  simp (disch := omega) only [SX0, SX1, SX2, SX3, SX4, SX5, SX6, SX7, SX8, SU0, SY0, SY1, Nat.reduceAdd, Nat.reduceMul, Nat.reduceSub, Nat.reduceLeDiff, Nat.reduceEqDiff, Nat.reduceLT, Nat.reduceBEq, ↓reduceIte, Int.reduceLE, Int.reduceLT, Int.reduceToNat, Int.reduceNeg, reduceCtorEq, Int.reduceEq, SF0, SF1, SF2, DHb0, DHb1, DHa0, DCg0, DCe0, DCe1, DCe2, DDb0, DBc0, DBc1, DDe0, DAlh0, DAlv0, DBtc0, DBtc1]
  exact fin_ks [0, 1] (.tup []) [.vec 1 (ints S'), .cells cs] ⟨rfl, S', rfl, hp, hs⟩ rfl (by simp [keepL, nameK, OB.ren, ints, freeL_ren' _ _ hfr]) (by simp) (by simp) (by simp)


theorem e_stableIE2 : Enters Try.prog 162 := enters_of Try.func162 (by kernel_rfl) (by kernel_rfl)
set_option maxRecDepth 8000 in
set_option maxHeartbeats 4000000 in
theorem stableIE2_c (f : FuncId) (cs : List AV) (g : Int → Int → Int) (D : Int → Prop) (hg : CmpOk g D) (hcs : ∀ m, underL m cs = true) (hfr : freeL cs = true) (E : Int → Int → Prop) (hf : ∀ x y, D x → D y → E x y → ACalls Try.prog f [.val (.int .i64 x), .val (.int .i64 y), .ptr 0 0] [.cells cs] [0] (fun r L => ∃ c, r = .val (.int .i64 c) ∧ (c < 0 ↔ g x y < 0) ∧ L = [.cells cs]))
    (S1 S2 : List Int) (hS : ∀ x ∈ S1 ++ S2, D x) (hE : (S1 ++ S2).Pairwise fun y x => E x y) (h1 : S1.length = 20) (n : Nat) (hn : n = 20 + S2.length) (hl : S2.length < 20) : ACalls Try.prog 162 [.os 0 1 0 n, .val (.int .i64 n), .fn f [.ptr 1 0]] [.vec 1 (ints (S1 ++ S2)), .cells cs] [0, 1] (fun r L => r = .tup [] ∧ ∃ S', L = [.vec 1 (ints S'), .cells cs] ∧ S'.Perm (S1 ++ S2) ∧ srt g S') := by
  have hren : ∀ f, renL f cs = cs := fun f => freeL_rend f hfr
  obtain ⟨hE1, hE2, hE3⟩ := List.pairwise_append.1 hE
  have hS1 : ∀ x ∈ S1, D x := fun x hx => hS x (List.mem_append_left _ hx)
  have hS2 : ∀ x ∈ S2, D x := fun x hx => hS x (List.mem_append_right _ hx)
  have I1 : ACalls Try.prog 163 [.os 0 1 0 n, .val (.int .i64 0), .val (.int .i64 20), .fn f [.ptr 1 0]] [.vec 1 (ints (S1 ++ S2)), .cells cs] [0, 1] (fun r L => r = .tup [] ∧ ∃ S', L = [.vec 1 (ints (S' ++ S2)), .cells cs] ∧ S'.Perm S1 ∧ srt g S') := insSortR_c f cs g D hg hcs hfr E hf [] S1 S2 0 20 n hS1 hE1 rfl (by omega) (by omega) (by omega)
  refine acalls_tm T_tt Try.func162 rfl e_stableIE2 60 rfl (W8 _ _ _ .any .any .any .any .any (W8 .any .any .any .any .any .any .any .any (W8 .any .any .any .any .any .any .any .any (W8 .any .any .any .any .any .any .any .any (W8 .any .any .any .any .any .any .any .any (W8 .any .any .any .any .any .any .any .any (W8 .any .any .any .any .any .any .any .any [.any, .any, .any, .any, .any, .any, .any]))))))) rfl (rv := []) rfl (sx_sound (bl := []) T_tt _ _ _ ?_)
  simp (disch := omega) only [SX0, SX1, SX2, SX3, SX4, SX5, SX6, SX7, SX8, SU0, SY0, SY1, Nat.reduceAdd, Nat.reduceMul, Nat.reduceSub, Nat.reduceLeDiff, Nat.reduceEqDiff, Nat.reduceLT, Nat.reduceBEq, ↓reduceIte, Int.reduceLE, Int.reduceLT, Int.reduceToNat, Int.reduceNeg, reduceCtorEq, Int.reduceEq, SF0, SF1, SF2, DHb0, DHb1, DHa0, DCg0, DCe0, DCe1, DCe2, DDb0, DBc0, DBc1, DDe0, DAlh0, DAlv0, DBtc0, DBtc1]
  with_reducible refine awp_loop_h (G := Nat × List Int) 9 54 (fun q => [(7, .val (.int .i64 (20 * q.1 : Nat))), (8, .val (.int .i64 (20 * q.1 + 20 : Nat)))]) (fun q => [.vec 1 (ints q.2), .cells cs]) (fun q => (q.1 = 0 ∧ q.2 = S1 ++ S2) ∨ (q.1 = 1 ∧ ∃ M1, q.2 = M1 ++ S2 ∧ M1.Perm S1 ∧ srt g M1)) (fun q => 1 - q.1) (0, S1 ++ S2) (.inl ⟨rfl, rfl⟩) ?_ (fun q hq => ?_)
  · simp (disch := omega) only [SX0, SX1, SX2, SX3, SX4, SX5, SX6, SX7, SX8, SU0, SY0, SY1, Nat.reduceAdd, Nat.reduceMul, Nat.reduceSub, Nat.reduceLeDiff, Nat.reduceEqDiff, Nat.reduceLT, Nat.reduceBEq, ↓reduceIte, Int.reduceLE, Int.reduceLT, Int.reduceToNat, Int.reduceNeg, reduceCtorEq, Int.reduceEq, SF0, SF1, SF2, DHb0, DHb1, DHa0, DCg0, DCe0, DCe1, DCe2, DDb0, DBc0, DBc1, DDe0, DAlh0, DAlv0, DBtc0, DBtc1]
    (refine wk_le ?_ ?_ ?_; (focus (simp [W8, leTm, leAV, AV.under, underL, ints, hcs]; done)); (focus (simp [leL, OB.under, underL, AV.under, ints, hcs]; done)); (focus (simp; done)))
  obtain ⟨q, R⟩ := q
  simp only at hq
  rcases hq with ⟨rfl, rfl⟩ | ⟨rfl, M1, rfl, hp1, hs1⟩
  · refine sx_sound (bl := []) T_tt _ _ _ ?_
    simp (disch := omega) only [SX0, SX1, SX2, SX3, SX4, SX5, SX6, SX7, SX8, SU0, SY0, SY1, Nat.reduceAdd, Nat.reduceMul, Nat.reduceSub, Nat.reduceLeDiff, Nat.reduceEqDiff, Nat.reduceLT, Nat.reduceBEq, ↓reduceIte, Int.reduceLE, Int.reduceLT, Int.reduceToNat, Int.reduceNeg, reduceCtorEq, Int.reduceEq, SF0, SF1, SF2, DHb0, DHb1, DHa0, DCg0, DCe0, DCe1, DCe2, DDb0, DBc0, DBc1, DDe0, DAlh0, DAlv0, DBtc0, DBtc1]
    refine br_dec (fun h => ?_) (fun h => by omega)
    simp (disch := omega) only [SX0, SX1, SX2, SX3, SX4, SX5, SX6, SX7, SX8, SU0, SY0, SY1, Nat.reduceAdd, Nat.reduceMul, Nat.reduceSub, Nat.reduceLeDiff, Nat.reduceEqDiff, Nat.reduceLT, Nat.reduceBEq, ↓reduceIte, Int.reduceLE, Int.reduceLT, Int.reduceToNat, Int.reduceNeg, reduceCtorEq, Int.reduceEq, SF0, SF1, SF2, DHb0, DHb1, DHa0, DCg0, DCe0, DCe1, DCe2, DDb0, DBc0, DBc1, DDe0, DAlh0, DAlv0, DBtc0, DBtc1]
    refine acall_own I1 [0, 1] [] (by simp [keepL, nameIn, OB.ren, freeL_ren' _ _ hfr, ints]) (by decide) (by decide) (by rfl) (by simp [AV.ren, nameIn, renL]) ?_
    rintro _ _ ⟨rfl, M1, rfl, hp1, hs1⟩
    simp (disch := omega) only [SX0, SX1, SX2, SX3, SX4, SX5, SX6, SX7, SX8, SU0, SY0, SY1, Nat.reduceAdd, Nat.reduceMul, Nat.reduceSub, Nat.reduceLeDiff, Nat.reduceEqDiff, Nat.reduceLT, Nat.reduceBEq, ↓reduceIte, Int.reduceLE, Int.reduceLT, Int.reduceToNat, Int.reduceNeg, reduceCtorEq, Int.reduceEq, SF0, SF1, SF2, DHb0, DHb1, DHa0, DCg0, DCe0, DCe1, DCe2, DDb0, DBc0, DBc1, DDe0, DAlh0, DAlv0, DBtc0, DBtc1, hren]
    refine ⟨(1, M1 ++ S2), .inr ⟨rfl, M1, rfl, hp1, hs1⟩, by simp only []; omega, ?_⟩
    (refine wk_le ?_ ?_ ?_; (focus (simp [W8, leTm, leAV, AV.under, underL, ints, hcs, hren]; done)); (focus (simp [leL, OB.under, underL, AV.under, ints, hcs, hren]; done)); (focus (simp; done)))
  have hM1 : M1.length = 20 := by rw [hp1.length_eq, h1]
  have I2 : ACalls Try.prog 163 [.os 0 1 0 n, .val (.int .i64 20), .val (.int .i64 n), .fn f [.ptr 1 0]] [.vec 1 (ints (M1 ++ S2)), .cells cs] [0, 1] (fun r L => r = .tup [] ∧ ∃ S', L = [.vec 1 (ints (M1 ++ S')), .cells cs] ∧ S'.Perm S2 ∧ srt g S') := by
    have := insSortR_c f cs g D hg hcs hfr E hf M1 S2 [] 20 n n hS2 hE2 hM1.symm hn rfl (by omega)
    simp only [List.append_nil] at this
    exact this
  refine sx_sound (bl := []) T_tt _ _ _ ?_
  simp (disch := omega) only [SX0, SX1, SX2, SX3, SX4, SX5, SX6, SX7, SX8, SU0, SY0, SY1, Nat.reduceAdd, Nat.reduceMul, Nat.reduceSub, Nat.reduceLeDiff, Nat.reduceEqDiff, Nat.reduceLT, Nat.reduceBEq, ↓reduceIte, Int.reduceLE, Int.reduceLT, Int.reduceToNat, Int.reduceNeg, reduceCtorEq, Int.reduceEq, SF0, SF1, SF2, DHb0, DHb1, DHa0, DCg0, DCe0, DCe1, DCe2, DDb0, DBc0, DBc1, DDe0, DAlh0, DAlv0, DBtc0, DBtc1]
  refine br_dec (fun h => by omega) (fun h => ?_)
  simp (disch := omega) only [SX0, SX1, SX2, SX3, SX4, SX5, SX6, SX7, SX8, SU0, SY0, SY1, Nat.reduceAdd, Nat.reduceMul, Nat.reduceSub, Nat.reduceLeDiff, Nat.reduceEqDiff, Nat.reduceLT, Nat.reduceBEq, ↓reduceIte, Int.reduceLE, Int.reduceLT, Int.reduceToNat, Int.reduceNeg, reduceCtorEq, Int.reduceEq, SF0, SF1, SF2, DHb0, DHb1, DHa0, DCg0, DCe0, DCe1, DCe2, DDb0, DBc0, DBc1, DDe0, DAlh0, DAlv0, DBtc0, DBtc1]
  refine acall_own I2 [0, 1] [] (by simp [keepL, nameIn, OB.ren, freeL_ren' _ _ hfr, ints]) (by decide) (by decide) (by rfl) (by simp [AV.ren, nameIn, renL]) ?_
  rintro _ _ ⟨rfl, M2, rfl, hp2, hs2⟩
  have hM2 : M2.length = S2.length := hp2.length_eq
  simp (disch := omega) only [SX0, SX1, SX2, SX3, SX4, SX5, SX6, SX7, SX8, SU0, SY0, SY1, Nat.reduceAdd, Nat.reduceMul, Nat.reduceSub, Nat.reduceLeDiff, Nat.reduceEqDiff, Nat.reduceLT, Nat.reduceBEq, ↓reduceIte, Int.reduceLE, Int.reduceLT, Int.reduceToNat, Int.reduceNeg, reduceCtorEq, Int.reduceEq, SF0, SF1, SF2, DHb0, DHb1, DHa0, DCg0, DCe0, DCe1, DCe2, DDb0, DBc0, DBc1, DDe0, DAlh0, DAlv0, DBtc0, DBtc1, hren]
  with_reducible refine awp_loop_h (G := Nat × List Int) 10 53 (fun q => [(6, .val (.int .i64 (20 * q.1 + 20 : Nat))), (7, .any), (8, .any)]) (fun q => [.vec 1 (ints q.2), .cells cs]) (fun q => (q.1 = 0 ∧ q.2 = M1 ++ M2) ∨ (q.1 = 1 ∧ q.2.Perm (S1 ++ S2) ∧ srt g q.2)) (fun q => 1 - q.1) (0, M1 ++ M2) (.inl ⟨rfl, rfl⟩) ?_ (fun q hq => ?_)
  · simp (disch := omega) only [SX0, SX1, SX2, SX3, SX4, SX5, SX6, SX7, SX8, SU0, SY0, SY1, Nat.reduceAdd, Nat.reduceMul, Nat.reduceSub, Nat.reduceLeDiff, Nat.reduceEqDiff, Nat.reduceLT, Nat.reduceBEq, ↓reduceIte, Int.reduceLE, Int.reduceLT, Int.reduceToNat, Int.reduceNeg, reduceCtorEq, Int.reduceEq, SF0, SF1, SF2, DHb0, DHb1, DHa0, DCg0, DCe0, DCe1, DCe2, DDb0, DBc0, DBc1, DDe0, DAlh0, DAlv0, DBtc0, DBtc1]
    (refine wk_le ?_ ?_ ?_; (focus (simp [W8, leTm, leAV, AV.under, underL, ints, hcs, hren]; done)); (focus (simp [leL, OB.under, underL, AV.under, ints, hcs, hren]; done)); (focus (simp; done)))
  obtain ⟨q, R⟩ := q
  simp only at hq
  rcases hq with ⟨rfl, rfl⟩ | ⟨rfl, hpR, hsR⟩
  · refine sx_sound (bl := []) T_tt _ _ _ ?_
    simp (disch := omega) only [SX0, SX1, SX2, SX3, SX4, SX5, SX6, SX7, SX8, SU0, SY0, SY1, Nat.reduceAdd, Nat.reduceMul, Nat.reduceSub, Nat.reduceLeDiff, Nat.reduceEqDiff, Nat.reduceLT, Nat.reduceBEq, ↓reduceIte, Int.reduceLE, Int.reduceLT, Int.reduceToNat, Int.reduceNeg, reduceCtorEq, Int.reduceEq, SF0, SF1, SF2, DHb0, DHb1, DHa0, DCg0, DCe0, DCe1, DCe2, DDb0, DBc0, DBc1, DDe0, DAlh0, DAlv0, DBtc0, DBtc1]
    refine br_dec (fun h => ?_) (fun h => ?_)
    · have SM : ACalls Try.prog 164 [.os 0 1 0 n, .val (.int .i64 0), .val (.int .i64 20), .val (.int .i64 n), .fn f [.ptr 1 0]] [.vec 1 (ints (M1 ++ M2)), .cells cs] [0, 1] (fun r L => r = .tup [] ∧ ∃ M, L = [.vec 1 (ints M), .cells cs] ∧ M.Perm (M1 ++ M2) ∧ srt g M) := by
        have := symMerge_n f cs g D hg hcs hfr E hf n [] M1 M2 [] n 0 20 n (by omega) (by omega) (by omega) (fun x hx => hS1 x (hp1.mem_iff.1 hx)) (fun x hx => hS2 x (hp2.mem_iff.1 hx)) (fun x hx y hy => hE3 x (hp1.mem_iff.1 hx) y (hp2.mem_iff.1 hy)) hs1 hs2 rfl (by omega) (by omega) rfl (by omega)
        simp only [List.append_nil, List.nil_append] at this
        exact this
      simp (disch := omega) only [SX0, SX1, SX2, SX3, SX4, SX5, SX6, SX7, SX8, SU0, SY0, SY1, Nat.reduceAdd, Nat.reduceMul, Nat.reduceSub, Nat.reduceLeDiff, Nat.reduceEqDiff, Nat.reduceLT, Nat.reduceBEq, ↓reduceIte, Int.reduceLE, Int.reduceLT, Int.reduceToNat, Int.reduceNeg, reduceCtorEq, Int.reduceEq, SF0, SF1, SF2, DHb0, DHb1, DHa0, DCg0, DCe0, DCe1, DCe2, DDb0, DBc0, DBc1, DDe0, DAlh0, DAlv0, DBtc0, DBtc1]
      with_reducible refine awp_loop_h (G := Unit) 10 53 (fun _ => []) (fun _ => [.vec 1 (ints (M1 ++ M2)), .cells cs]) (fun _ => True) (fun _ => 0) () trivial ?_ (fun _ _ => sx_sound (bl := []) T_tt _ _ _ ?_)
      · simp (disch := omega) only [SX0, SX1, SX2, SX3, SX4, SX5, SX6, SX7, SX8, SU0, SY0, SY1, Nat.reduceAdd, Nat.reduceMul, Nat.reduceSub, Nat.reduceLeDiff, Nat.reduceEqDiff, Nat.reduceLT, Nat.reduceBEq, ↓reduceIte, Int.reduceLE, Int.reduceLT, Int.reduceToNat, Int.reduceNeg, reduceCtorEq, Int.reduceEq, SF0, SF1, SF2, DHb0, DHb1, DHa0, DCg0, DCe0, DCe1, DCe2, DDb0, DBc0, DBc1, DDe0, DAlh0, DAlv0, DBtc0, DBtc1]
        (refine wk_le ?_ ?_ ?_; (focus (simp [W8, leTm, leAV, AV.under, underL, ints, hcs, hren]; done)); (focus (simp [leL, OB.under, underL, AV.under, ints, hcs, hren]; done)); (focus (simp; done)))
      simp (disch := omega) only [SX0, SX1, SX2, SX3, SX4, SX5, SX6, SX7, SX8, SU0, SY0, SY1, Nat.reduceAdd, Nat.reduceMul, Nat.reduceSub, Nat.reduceLeDiff, Nat.reduceEqDiff, Nat.reduceLT, Nat.reduceBEq, ↓reduceIte, Int.reduceLE, Int.reduceLT, Int.reduceToNat, Int.reduceNeg, reduceCtorEq, Int.reduceEq, SF0, SF1, SF2, DHb0, DHb1, DHa0, DCg0, DCe0, DCe1, DCe2, DDb0, DBc0, DBc1, DDe0, DAlh0, DAlv0, DBtc0, DBtc1]
      refine br_dec (fun h => by omega) (fun _ => ?_)
      simp (disch := omega) only [SX0, SX1, SX2, SX3, SX4, SX5, SX6, SX7, SX8, SU0, SY0, SY1, Nat.reduceAdd, Nat.reduceMul, Nat.reduceSub, Nat.reduceLeDiff, Nat.reduceEqDiff, Nat.reduceLT, Nat.reduceBEq, ↓reduceIte, Int.reduceLE, Int.reduceLT, Int.reduceToNat, Int.reduceNeg, reduceCtorEq, Int.reduceEq, SF0, SF1, SF2, DHb0, DHb1, DHa0, DCg0, DCe0, DCe1, DCe2, DDb0, DBc0, DBc1, DDe0, DAlh0, DAlv0, DBtc0, DBtc1]
      refine br_dec (fun h => ?_) (fun h => by omega)
      simp (disch := omega) only [SX0, SX1, SX2, SX3, SX4, SX5, SX6, SX7, SX8, SU0, SY0, SY1, Nat.reduceAdd, Nat.reduceMul, Nat.reduceSub, Nat.reduceLeDiff, Nat.reduceEqDiff, Nat.reduceLT, Nat.reduceBEq, ↓reduceIte, Int.reduceLE, Int.reduceLT, Int.reduceToNat, Int.reduceNeg, reduceCtorEq, Int.reduceEq, SF0, SF1, SF2, DHb0, DHb1, DHa0, DCg0, DCe0, DCe1, DCe2, DDb0, DBc0, DBc1, DDe0, DAlh0, DAlv0, DBtc0, DBtc1]
      refine acall_own SM [0, 1] [] (by simp [keepL, nameIn, OB.ren, freeL_ren' _ _ hfr, ints]) (by decide) (by decide) (by rfl) (by simp [AV.ren, nameIn, renL]) ?_
      rintro _ _ ⟨rfl, M, rfl, hpM, hsM⟩
      simp (disch := omega) only [SX0, SX1, SX2, SX3, SX4, SX5, SX6, SX7, SX8, SU0, SY0, SY1, Nat.reduceAdd, Nat.reduceMul, Nat.reduceSub, Nat.reduceLeDiff, Nat.reduceEqDiff, Nat.reduceLT, Nat.reduceBEq, ↓reduceIte, Int.reduceLE, Int.reduceLT, Int.reduceToNat, Int.reduceNeg, reduceCtorEq, Int.reduceEq, SF0, SF1, SF2, DHb0, DHb1, DHa0, DCg0, DCe0, DCe1, DCe2, DDb0, DBc0, DBc1, DDe0, DAlh0, DAlv0, DBtc0, DBtc1, hren]
      refine ⟨(1, M), .inr ⟨rfl, hpM.trans (hp1.append hp2), hsM⟩, by simp only []; omega, ?_⟩
      (refine wk_le ?_ ?_ ?_; (focus (simp [W8, leTm, leAV, AV.under, underL, ints, hcs, hren]; done)); (focus (simp [leL, OB.under, underL, AV.under, ints, hcs, hren]; done)); (focus (simp; done)))
    · have h2 : M2 = [] := List.length_eq_zero_iff.1 (by omega)
      simp (disch := omega) only [SX0, SX1, SX2, SX3, SX4, SX5, SX6, SX7, SX8, SU0, SY0, SY1, Nat.reduceAdd, Nat.reduceMul, Nat.reduceSub, Nat.reduceLeDiff, Nat.reduceEqDiff, Nat.reduceLT, Nat.reduceBEq, ↓reduceIte, Int.reduceLE, Int.reduceLT, Int.reduceToNat, Int.reduceNeg, reduceCtorEq, Int.reduceEq, SF0, SF1, SF2, DHb0, DHb1, DHa0, DCg0, DCe0, DCe1, DCe2, DDb0, DBc0, DBc1, DDe0, DAlh0, DAlv0, DBtc0, DBtc1]
      refine fin_ks [0, 1] (.tup []) [.vec 1 (ints (M1 ++ M2)), .cells cs] ⟨rfl, _, rfl, hp1.append hp2, ?_⟩ rfl (by simp [keepL, nameK, OB.ren, ints, freeL_ren' _ _ hfr]) (by simp) (by simp) (by simp)
      rw [h2, List.append_nil]
      exact hs1
  · refine sx_sound (bl := []) T_tt _ _ _ ?_
    simp (disch := omega) only [SX0, SX1, SX2, SX3, SX4, SX5, SX6, SX7, SX8, SU0, SY0, SY1, Nat.reduceAdd, Nat.reduceMul, Nat.reduceSub, Nat.reduceLeDiff, Nat.reduceEqDiff, Nat.reduceLT, Nat.reduceBEq, ↓reduceIte, Int.reduceLE, Int.reduceLT, Int.reduceToNat, Int.reduceNeg, reduceCtorEq, Int.reduceEq, SF0, SF1, SF2, DHb0, DHb1, DHa0, DCg0, DCe0, DCe1, DCe2, DDb0, DBc0, DBc1, DDe0, DAlh0, DAlv0, DBtc0, DBtc1]
    refine br_dec (fun h => by omega) (fun h => ?_)
    simp (disch := omega) only [SX0, SX1, SX2, SX3, SX4, SX5, SX6, SX7, SX8, SU0, SY0, SY1, Nat.reduceAdd, Nat.reduceMul, Nat.reduceSub, Nat.reduceLeDiff, Nat.reduceEqDiff, Nat.reduceLT, Nat.reduceBEq, ↓reduceIte, Int.reduceLE, Int.reduceLT, Int.reduceToNat, Int.reduceNeg, reduceCtorEq, Int.reduceEq, SF0, SF1, SF2, DHb0, DHb1, DHa0, DCg0, DCe0, DCe1, DCe2, DDb0, DBc0, DBc1, DDe0, DAlh0, DAlv0, DBtc0, DBtc1]
    exact fin_ks [0, 1] (.tup []) [.vec 1 (ints R), .cells cs] ⟨rfl, _, rfl, hpR, hsR⟩ rfl (by simp [keepL, nameK, OB.ren, ints, freeL_ren' _ _ hfr]) (by simp) (by simp) (by simp)

theorem stableIE3_c (f : FuncId) (cs : List AV) (g : Int → Int → Int) (D : Int → Prop) (hg : CmpOk g D) (hcs : ∀ m, underL m cs = true) (hfr : freeL cs = true) (E : Int → Int → Prop) (hf : ∀ x y, D x → D y → E x y → ACalls Try.prog f [.val (.int .i64 x), .val (.int .i64 y), .ptr 0 0] [.cells cs] [0] (fun r L => ∃ c, r = .val (.int .i64 c) ∧ (c < 0 ↔ g x y < 0) ∧ L = [.cells cs]))
    (S : List Int) (hS : ∀ x ∈ S, D x) (hE : S.Pairwise fun y x => E x y) (hl : S.length < 40) : ACalls Try.prog 162 [.os 0 1 0 S.length, .val (.int .i64 S.length), .fn f [.ptr 1 0]] [.vec 1 (ints S), .cells cs] [0, 1] (fun r L => r = .tup [] ∧ ∃ S', L = [.vec 1 (ints S'), .cells cs] ∧ S'.Perm S ∧ srt g S') := by
  rcases Nat.lt_or_ge S.length 20 with h | h
  · exact stableIE_c f cs g D hg hcs hfr E hf S hS hE h
  · have e : S.take 20 ++ S.drop 20 = S := List.take_append_drop 20 S
    have h1 : (S.take 20).length = 20 := by rw [List.length_take]; omega
    have h2 : (S.drop 20).length = S.length - 20 := by rw [List.length_drop]
    have := stableIE2_c f cs g D hg hcs hfr E hf (S.take 20) (S.drop 20) (by rwa [e]) (by rwa [e]) h1 S.length (by omega) (by omega)
    rwa [e] at this

theorem e_sortStableIE : Enters Try.prog 154 := enters_of Try.func154 (by kernel_rfl) (by kernel_rfl)
theorem sortStableIE_c (f : FuncId) (cs : List AV) (g : Int → Int → Int) (D : Int → Prop) (hg : CmpOk g D) (hcs : ∀ m, underL m cs = true) (hfr : freeL cs = true) (E : Int → Int → Prop) (hf : ∀ x y, D x → D y → E x y → ACalls Try.prog f [.val (.int .i64 x), .val (.int .i64 y), .ptr 0 0] [.cells cs] [0] (fun r L => ∃ c, r = .val (.int .i64 c) ∧ (c < 0 ↔ g x y < 0) ∧ L = [.cells cs]))
    (S : List Int) (hS : ∀ x ∈ S, D x) (hE : S.Pairwise fun y x => E x y) (hl : S.length < 40) : ACalls Try.prog 154 [.os 0 1 0 S.length, .fn f [.ptr 1 0]] [.vec 1 (ints S), .cells cs] [0, 1] (fun r L => r = .tup [] ∧ ∃ S', L = [.vec 1 (ints S'), .cells cs] ∧ S'.Perm S ∧ srt g S') := by
  have I := stableIE3_c f cs g D hg hcs hfr E hf S hS hE hl
  have hren : ∀ f, renL f cs = cs := fun f => freeL_rend f hfr
  refine acalls_tm T_tt Try.func154 rfl e_sortStableIE 7 rfl (W8 _ _ .any .any .any .any .any .any [.any]) rfl (rv := []) rfl (sx_sound (bl := []) T_tt _ _ _ ?_)
  simp (disch := omega) only [SX0, SX1, SX2, SX3, SX4, SX5, SX6, SX7, SX8, SU0, SY0, SY1, Nat.reduceAdd, Nat.reduceMul, Nat.reduceSub, Nat.reduceLeDiff, Nat.reduceEqDiff, Nat.reduceLT, Nat.reduceBEq, ↓reduceIte, Int.reduceLE, Int.reduceLT, Int.reduceToNat, Int.reduceNeg, reduceCtorEq, Int.reduceEq, SF0, SF1, SF2, DHb0, DHb1, DHa0, DCg0, DCe0, DCe1, DCe2, DDb0, DBc0, DBc1, DDe0, DAlh0, DAlv0, DBtc0, DBtc1]
  refine acall_own I [0, 1] [] (by simp [keepL, nameIn, OB.ren, freeL_ren' _ _ hfr, ints]) (by decide) (by decide) (by rfl) (by simp [AV.ren, nameIn, renL]) ?_
  rintro _ _ ⟨rfl, S', rfl, hp, hs⟩
  simp (disch := omega) only [SX0, SX1, SX2, SX3, SX4, SX5, SX6, SX7, SX8, SU0, SY0, SY1, Nat.reduceAdd, Nat.reduceMul, Nat.reduceSub, Nat.reduceLeDiff, Nat.reduceEqDiff, Nat.reduceLT, Nat.reduceBEq, ↓reduceIte, Int.reduceLE, Int.reduceLT, Int.reduceToNat, Int.reduceNeg, reduceCtorEq, Int.reduceEq, SF0, SF1, SF2, DHb0, DHb1, DHa0, DCg0, DCe0, DCe1, DCe2, DDb0, DBc0, DBc1, DDe0, DAlh0, DAlv0, DBtc0, DBtc1, hren]
  exact fin_ks [0, 1] (.tup []) [.vec 1 (ints S'), .cells cs] ⟨rfl, S', rfl, hp, hs⟩ rfl (by simp [keepL, nameK, OB.ren, ints, freeL_ren' _ _ hfr]) (by simp) (by simp) (by simp)

theorem e_indicesByE : Enters Try.prog 130 := enters_of Try.func130 (by kernel_rfl) (by kernel_rfl)
set_option maxHeartbeats 1000000 in
theorem indicesByE_c (f : FuncId) (cs : List AV) (g : Int → Int → Int) (n : Nat) (hn : n < 40) (hg : CmpOk g (fun x => 0 ≤ x ∧ x < n)) (hcs : ∀ m, underL m cs = true) (hfr : freeL cs = true) (hf : ∀ x y, (0 ≤ x ∧ x < (n : Int)) → (0 ≤ y ∧ y < (n : Int)) → y < x → ACalls Try.prog f [.val (.int .i64 x), .val (.int .i64 y), .ptr 0 0] [.cells cs] [0] (fun r L => ∃ c, r = .val (.int .i64 c) ∧ (c < 0 ↔ g x y < 0) ∧ L = [.cells cs])) :
    ACalls Try.prog 130 [.val (.int .i64 n), .fn f [.ptr 0 0]] [.cells cs] [0] (fun r L => ∃ S', r = .os 1 1 0 n ∧ L = [.cells cs, .vec 1 (ints S')] ∧ S'.Perm (upTo n) ∧ srt g S') := by
  have I := sortStableIE_c f cs g _ hg hcs hfr (fun x y => y < x) hf (upTo n) (fun x hx => by
    obtain ⟨i, hi, rfl⟩ := List.mem_map.1 hx
    have := List.mem_range.1 hi
    exact ⟨by omega, by omega⟩) (upTo_asc n) (by rw [upTo_len]; exact hn)
  rw [upTo_len] at I
  have hren : ∀ f, renL f cs = cs := fun f => freeL_rend f hfr
  refine acalls_tm T_tt Try.func130 rfl e_indicesByE 21 rfl (W8 _ _ .any .any .any .any .any .any (W8 .any .any .any .any .any .any .any .any [.any, .any, .any, .any, .any, .any, .any])) rfl (rv := [.tmp 4]) rfl (sx_sound (bl := []) T_tt _ _ _ ?_)
  simp (disch := omega) only [SX0, SX1, SX2, SX3, SX4, SX5, SX6, SX7, SX8, SU0, SY0, SY1, Nat.reduceAdd, Nat.reduceMul, Nat.reduceSub, Nat.reduceLeDiff, Nat.reduceEqDiff, Nat.reduceLT, Nat.reduceBEq, ↓reduceIte, Int.reduceLE, Int.reduceLT, Int.reduceToNat, Int.reduceNeg, reduceCtorEq, Int.reduceEq, SF0, SF1, SF2, DHb0, DHb1, DHa0, DCg0, DCe0, DCe1, DCe2, DDb0, DBc0, DBc1, DDe0, DAlh0, DAlv0, DBtc0, DBtc1]
  refine req (by omega) ?_
  simp (disch := omega) only [SX0, SX1, SX2, SX3, SX4, SX5, SX6, SX7, SX8, SU0, SY0, SY1, Nat.reduceAdd, Nat.reduceMul, Nat.reduceSub, Nat.reduceLeDiff, Nat.reduceEqDiff, Nat.reduceLT, Nat.reduceBEq, ↓reduceIte, Int.reduceLE, Int.reduceLT, Int.reduceToNat, Int.reduceNeg, reduceCtorEq, Int.reduceEq, SF0, SF1, SF2, DHb0, DHb1, DHa0, DCg0, DCe0, DCe1, DCe2, DDb0, DBc0, DBc1, DDe0, DAlh0, DAlv0, DBtc0, DBtc1]
  rw [← fillN_zero]
  with_reducible refine awp_loop_h (G := Nat) 6 17 (fun i => [(9, .os 1 1 0 n), (10, .val (.int .i64 n)), (11, .val (.int .i64 i))]) (fun i => [.cells cs, .vec 1 (ints (fillN n i))]) (fun i => i ≤ n) (fun i => n - i) 0 (Nat.zero_le _) ?_ (fun i hi => ?_)
  · simp (disch := omega) only [SX0, SX1, SX2, SX3, SX4, SX5, SX6, SX7, SX8, SU0, SY0, SY1, Nat.reduceAdd, Nat.reduceMul, Nat.reduceSub, Nat.reduceLeDiff, Nat.reduceEqDiff, Nat.reduceLT, Nat.reduceBEq, ↓reduceIte, Int.reduceLE, Int.reduceLT, Int.reduceToNat, Int.reduceNeg, reduceCtorEq, Int.reduceEq, SF0, SF1, SF2, DHb0, DHb1, DHa0, DCg0, DCe0, DCe1, DCe2, DDb0, DBc0, DBc1, DDe0, DAlh0, DAlv0, DBtc0, DBtc1]
    (refine wk_le ?_ ?_ ?_; (focus (simp [W8, leTm, leAV, AV.under, underL, ints, hcs]; done)); (focus (simp [leL, OB.under, underL, AV.under, ints, hcs]; done)); (focus (simp; done)))
  have hfl := fillN_len n i
  refine sx_sound (bl := []) T_tt _ _ _ ?_
  simp (disch := omega) only [SX0, SX1, SX2, SX3, SX4, SX5, SX6, SX7, SX8, SU0, SY0, SY1, Nat.reduceAdd, Nat.reduceMul, Nat.reduceSub, Nat.reduceLeDiff, Nat.reduceEqDiff, Nat.reduceLT, Nat.reduceBEq, ↓reduceIte, Int.reduceLE, Int.reduceLT, Int.reduceToNat, Int.reduceNeg, reduceCtorEq, Int.reduceEq, SF0, SF1, SF2, DHb0, DHb1, DHa0, DCg0, DCe0, DCe1, DCe2, DDb0, DBc0, DBc1, DDe0, DAlh0, DAlv0, DBtc0, DBtc1]
  refine br_dec (fun h1 => ?_) (fun h1 => ?_)
  · have hg0 := fillN_get (n := n) (i := i) (by omega)
    have hs0 : (List.map (fun x => [AV.val (.int .i64 x)]) (fillN n i)).set i [.val (.int .i64 i)] = ints (fillN n (i + 1)) := by rw [← fillN_set (by omega)]; simp [ints, List.map_set]
    simp (disch := omega) only [SX0, SX1, SX2, SX3, SX4, SX5, SX6, SX7, SX8, SU0, SY0, SY1, Nat.reduceAdd, Nat.reduceMul, Nat.reduceSub, Nat.reduceLeDiff, Nat.reduceEqDiff, Nat.reduceLT, Nat.reduceBEq, ↓reduceIte, Int.reduceLE, Int.reduceLT, Int.reduceToNat, Int.reduceNeg, reduceCtorEq, Int.reduceEq, SF0, SF1, SF2, DHb0, DHb1, DHa0, DCg0, DCe0, DCe1, DCe2, DDb0, DBc0, DBc1, DDe0, DAlh0, DAlv0, DBtc0, DBtc1]
    refine req (by omega) ?_
    simp (disch := omega) only [SX0, SX1, SX2, SX3, SX4, SX5, SX6, SX7, SX8, SU0, SY0, SY1, Nat.reduceAdd, Nat.reduceMul, Nat.reduceSub, Nat.reduceLeDiff, Nat.reduceEqDiff, Nat.reduceLT, Nat.reduceBEq, ↓reduceIte, Int.reduceLE, Int.reduceLT, Int.reduceToNat, Int.reduceNeg, reduceCtorEq, Int.reduceEq, SF0, SF1, SF2, DHb0, DHb1, DHa0, DCg0, DCe0, DCe1, DCe2, DDb0, DBc0, DBc1, DDe0, DAlh0, DAlv0, DBtc0, DBtc1, hg0, hs0]
    refine ⟨i + 1, by omega, by omega, ?_⟩
    (refine wk_le ?_ ?_ ?_; (focus (simp [W8, leTm, leAV, AV.under, underL, ints, hcs]; done)); (focus (simp [leL, OB.under, underL, AV.under, ints, hcs]; done)); (focus (simp; done)))
  · have hin : i = n := by omega
    subst hin
    rw [fillN_all]
    simp (disch := omega) only [SX0, SX1, SX2, SX3, SX4, SX5, SX6, SX7, SX8, SU0, SY0, SY1, Nat.reduceAdd, Nat.reduceMul, Nat.reduceSub, Nat.reduceLeDiff, Nat.reduceEqDiff, Nat.reduceLT, Nat.reduceBEq, ↓reduceIte, Int.reduceLE, Int.reduceLT, Int.reduceToNat, Int.reduceNeg, reduceCtorEq, Int.reduceEq, SF0, SF1, SF2, DHb0, DHb1, DHa0, DCg0, DCe0, DCe1, DCe2, DDb0, DBc0, DBc1, DDe0, DAlh0, DAlv0, DBtc0, DBtc1]
    refine acall_own I [1, 0] [] (by simp [keepL, nameIn, OB.ren, freeL_ren' _ _ hfr, ints]) (by decide) (by decide) (by rfl) (by simp [AV.ren, nameIn, renL]) ?_
    rintro _ _ ⟨rfl, S', rfl, hp, hs⟩
    simp (disch := omega) only [SX0, SX1, SX2, SX3, SX4, SX5, SX6, SX7, SX8, SU0, SY0, SY1, Nat.reduceAdd, Nat.reduceMul, Nat.reduceSub, Nat.reduceLeDiff, Nat.reduceEqDiff, Nat.reduceLT, Nat.reduceBEq, ↓reduceIte, Int.reduceLE, Int.reduceLT, Int.reduceToNat, Int.reduceNeg, reduceCtorEq, Int.reduceEq, SF0, SF1, SF2, DHb0, DHb1, DHa0, DCg0, DCe0, DCe1, DCe2, DDb0, DBc0, DBc1, DDe0, DAlh0, DAlv0, DBtc0, DBtc1, hren]
    exact fin_ks [0, 1] (.os 1 1 0 i) [.cells cs, .vec 1 (ints S')] ⟨S', rfl, rfl, hp, hs⟩ (by simp [AV.ren, nameK]) (by simp [keepL, nameK, OB.ren, ints, freeL_ren' _ _ hfr]) (by simp) (by simp) (by simp)

end Go.Pc
