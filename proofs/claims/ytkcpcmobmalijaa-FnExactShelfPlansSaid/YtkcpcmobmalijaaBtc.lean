/- Two sorted pieces merged in place: the library's symMerge walked. -/
import Derived.Test.YtkcpcmobmalijaaBtb
set_option linter.unusedSimpArgs false
set_option linter.unusedVariables false
namespace Go.Pc
open Go Go.Proofs

theorem qBin_shrU {T : TypeId → Ty} (t : TypeId) (a : Int) (K : AV → Prop) : qBin T .shr t (.val (.int .u64 a)) (.val (.int .u64 1)) K = K (.val (.int .u64 (a / 2))) := by
  have e : (2 : Int) ^ min (1 : Int).toNat IntKind.u64.bits = 2 := by decide
  simp only [qBin, e, show (0 : Int) ≤ 1 by decide, true_and]
theorem DBtc0 : type_of% @qBin_shrU := @qBin_shrU
theorem wrapU (x : Int) (h1 : 0 ≤ x) (h2 : x < 9223372036854775808) : IntKind.u64.wrap x = x := by
  simp [IntKind.wrap, IntKind.signed, IntKind.bits]
  omega

section
variable {P : Program} {fx : List Nat}
theorem athen_n {y : Code} {Q : Exit → AS → Prop} {s : AS} (h : awp P fx y Q s) : AThen P fx y Q .normal s := h
theorem athen_ret {y : Code} {Q : Exit → AS → Prop} {s : AS} : AThen P fx y Q .ret s = Q .ret s := nrf rfl
/-- What is asked where the walk is cut. -/
def CutH (fx : List Nat) {G : Type} (I : G → Prop) (t : G → AS) (Q : Exit → AS → Prop) (e : Exit) (s : AS) : Prop :=
  match e with
  | .normal => ∃ g, I g ∧ Wk fx s (t g)
  | .exit i => Q (.exit i) s
  | .goto l => Q (.goto l) s
  | .ret => Q .ret s
  | .panic c => Q (.panic c) s
  | .outgrown => Q .outgrown s
theorem cutq {G : Type} {I : G → Prop} {t : G → AS} {Q : Exit → AS → Prop} {s : AS} (g : G) (hI : I g) (h : Wk fx s (t g)) : CutH fx I t Q .normal s := ⟨g, hI, h⟩
theorem awp_cut_h {x y : Code} {Q : Exit → AS → Prop} {s : AS} {G : Type} (lo n : Nat) (vals : G → List (Nat × AV)) (Ls : G → List OB) (I : G → Prop)
    (h1 : awp P fx x (CutH fx I (fun g => s.hav lo n (vals g) (Ls g)) Q) s) (h2 : ∀ g, I g → awp P fx y Q (s.hav lo n (vals g) (Ls g))) : awp P fx (.seq x y) Q s := by
  refine awp_seqB fun ρ a w hr => wp_mono (h1 ρ a w hr) fun e a' w' ⟨s', ρ', q1, q2, q3⟩ => ⟨s', ρ', ?_, q2, q3⟩
  cases e with
  | normal =>
    obtain ⟨g, hI, h⟩ := q1
    exact awp_wk h (h2 g hI)
  | _ => exact q1
end
theorem DBtc1 : type_of% @athen_ret := @athen_ret

theorem e_symMerge : Enters Try.prog 164 := enters_of Try.func164 (by kernel_rfl) (by kernel_rfl)
set_option maxRecDepth 8000 in
set_option maxHeartbeats 8000000 in
theorem symMerge_n (f : FuncId) (cs : List AV) (g : Int → Int → Int) (D : Int → Prop) (hg : CmpOk g D) (hcs : ∀ m, underL m cs = true) (hfr : freeL cs = true) (E : Int → Int → Prop) (hf : ∀ x y, D x → D y → E x y → ACalls Try.prog f [.val (.int .i64 x), .val (.int .i64 y), .ptr 0 0] [.cells cs] [0] (fun r L => ∃ c, r = .val (.int .i64 c) ∧ (c < 0 ↔ g x y < 0) ∧ L = [.cells cs])) :
    ∀ (n : Nat) (A X Y B : List Int) (N a m b : Nat), X.length + Y.length ≤ n → 0 < X.length → 0 < Y.length → (∀ x ∈ X, D x) → (∀ y ∈ Y, D y) → (∀ x ∈ X, ∀ y ∈ Y, E y x) → srt g X → srt g Y → a = A.length → m = a + X.length → b = m + Y.length → N = b + B.length → N < 2 ^ 40 →
    ACalls Try.prog 164 [.os 0 1 0 N, .val (.int .i64 a), .val (.int .i64 m), .val (.int .i64 b), .fn f [.ptr 1 0]] [.vec 1 (ints (A ++ (X ++ (Y ++ B)))), .cells cs] [0, 1] (fun r L => r = .tup [] ∧ ∃ M, L = [.vec 1 (ints (A ++ (M ++ B))), .cells cs] ∧ M.Perm (X ++ Y) ∧ srt g M) := by
  intro n
  induction n with
  | zero => intro A X Y B N a m b h; omega
  | succ n ih =>
  intro A X Y B N a m b hn hX0 hY0 hDX hDY hE hsX hsY ha hm hb hN hN2
  have hren : ∀ f, renL f cs = cs := fun f => freeL_rend f hfr
  refine acalls_tm T_tt Try.func164 rfl e_symMerge 215 rfl (W8 _ _ _ _ _ .any .any .any (W8 .any .any .any .any .any .any .any .any (W8 .any .any .any .any .any .any .any .any (W8 .any .any .any .any .any .any .any .any (W8 .any .any .any .any .any .any .any .any (W8 .any .any .any .any .any .any .any .any (W8 .any .any .any .any .any .any .any .any (W8 .any .any .any .any .any .any .any .any (W8 .any .any .any .any .any .any .any .any (W8 .any .any .any .any .any .any .any .any (W8 .any .any .any .any .any .any .any .any (W8 .any .any .any .any .any .any .any .any (W8 .any .any .any .any .any .any .any .any (W8 .any .any .any .any .any .any .any .any (W8 .any .any .any .any .any .any .any .any (W8 .any .any .any .any .any .any .any .any (W8 .any .any .any .any .any .any .any .any (W8 .any .any .any .any .any .any .any .any (W8 .any .any .any .any .any .any .any .any (W8 .any .any .any .any .any .any .any .any (W8 .any .any .any .any .any .any .any .any (W8 .any .any .any .any .any .any .any .any (W8 .any .any .any .any .any .any .any .any (W8 .any .any .any .any .any .any .any .any (W8 .any .any .any .any .any .any .any .any (W8 .any .any .any .any .any .any .any .any (W8 .any .any .any .any .any .any .any .any [.any, .any, .any, .any]))))))))))))))))))))))))))) rfl (rv := []) rfl ?_
  refine awp_seqB (sx_sound (bl := []) T_tt _ _ _ ?_)
  simp (disch := omega) only [SX0, SX1, SX2, SX3, SX4, SX5, SX6, SX7, SX8, SU0, SY0, SY1, Nat.reduceAdd, Nat.reduceMul, Nat.reduceSub, Nat.reduceLeDiff, Nat.reduceEqDiff, Nat.reduceLT, Nat.reduceBEq, ↓reduceIte, Int.reduceLE, Int.reduceLT, Int.reduceToNat, Int.reduceNeg, reduceCtorEq, Int.reduceEq, SF0, SF1, SF2, DHb0, DHb1, DHa0, DCg0, DCe0, DCe1, DCe2, DDb0, DBc0, DBc1, DDe0, DAlh0, DAlv0, DBtc0, DBtc1]
  refine br_dec (fun h1 => ?_) (fun h1 => ?_)
  · -- one number on the left
    obtain ⟨x, rfl⟩ : ∃ x, X = [x] := by
      match X, hX0 with
      | [x], _ => exact ⟨x, rfl⟩
      | x :: x' :: l, _ => simp at hm; omega
    have hxD := hDX x (by simp)
    simp (disch := omega) only [SX0, SX1, SX2, SX3, SX4, SX5, SX6, SX7, SX8, SU0, SY0, SY1, Nat.reduceAdd, Nat.reduceMul, Nat.reduceSub, Nat.reduceLeDiff, Nat.reduceEqDiff, Nat.reduceLT, Nat.reduceBEq, ↓reduceIte, Int.reduceLE, Int.reduceLT, Int.reduceToNat, Int.reduceNeg, reduceCtorEq, Int.reduceEq, SF0, SF1, SF2, DHb0, DHb1, DHa0, DCg0, DCe0, DCe1, DCe2, DDb0, DBc0, DBc1, DDe0, DAlh0, DAlv0, DBtc0, DBtc1]
    with_reducible refine awp_loop_h (G := Nat × Nat) 12 208 (fun q => [(10, .val (.int .i64 (m + q.1 : Nat))), (11, .val (.int .i64 (m + q.2 : Nat)))]) (fun q => [.vec 1 (ints (A ++ x :: (Y ++ B))), .cells cs]) (fun q => q.1 ≤ q.2 ∧ q.2 ≤ Y.length ∧ (q.1 = 0 ∨ ∃ y, Y[q.1 - 1]? = some y ∧ g y x < 0) ∧ (q.2 = Y.length ∨ ∃ y, Y[q.2]? = some y ∧ ¬ g y x < 0)) (fun q => q.2 - q.1) (0, Y.length) ⟨Nat.zero_le _, Nat.le_refl _, .inl rfl, .inl rfl⟩ ?_ (fun q hq => ?_)
    · have e1 : (b : Int) = ((m + Y.length : Nat) : Int) := by omega
      simp (disch := omega) only [SX0, SX1, SX2, SX3, SX4, SX5, SX6, SX7, SX8, SU0, SY0, SY1, Nat.reduceAdd, Nat.reduceMul, Nat.reduceSub, Nat.reduceLeDiff, Nat.reduceEqDiff, Nat.reduceLT, Nat.reduceBEq, ↓reduceIte, Int.reduceLE, Int.reduceLT, Int.reduceToNat, Int.reduceNeg, reduceCtorEq, Int.reduceEq, SF0, SF1, SF2, DHb0, DHb1, DHa0, DCg0, DCe0, DCe1, DCe2, DDb0, DBc0, DBc1, DDe0, DAlh0, DAlv0, DBtc0, DBtc1]
      (refine wk_le ?_ ?_ ?_; (focus (simp [W8, leTm, leAV, AV.under, underL, ints, hcs, e1]; done)); (focus (simp [leL, OB.under, underL, AV.under, ints, hcs, e1]; done)); (focus (simp; done)))
    obtain ⟨i, j⟩ := q
    simp only at hq
    obtain ⟨q1, q2, q3, q4⟩ := hq
    refine sx_sound (bl := []) T_tt _ _ _ ?_
    simp (disch := omega) only [SX0, SX1, SX2, SX3, SX4, SX5, SX6, SX7, SX8, SU0, SY0, SY1, Nat.reduceAdd, Nat.reduceMul, Nat.reduceSub, Nat.reduceLeDiff, Nat.reduceEqDiff, Nat.reduceLT, Nat.reduceBEq, ↓reduceIte, Int.reduceLE, Int.reduceLT, Int.reduceToNat, Int.reduceNeg, reduceCtorEq, Int.reduceEq, SF0, SF1, SF2, DHb0, DHb1, DHa0, DCg0, DCe0, DCe1, DCe2, DDb0, DBc0, DBc1, DDe0, DAlh0, DAlv0, DBtc0, DBtc1]
    refine br_dec (fun h2 => ?_) (fun h2 => ?_)
    · have hw : IntKind.u64.wrap ((m + i : Nat) + (m + j : Nat)) = ((m + i : Nat) + (m + j : Nat) : Int) := wrapU _ (by omega) (by omega)
      have hh : (((m + i : Nat) + (m + j : Nat) : Int) / 2) = ((m + (i + j) / 2 : Nat) : Int) := by omega
      obtain ⟨y, hy⟩ := get_lt (l := Y) (i := (i + j) / 2) (by omega)
      have gy : (A ++ x :: (Y ++ B))[m + (i + j) / 2]? = some y := by
        rw [← List.singleton_append]
        rw [List.getElem?_append_right (by omega), List.getElem?_append_right (by simp; omega), List.getElem?_append_left (by simp at hm ⊢; omega), ← hy]
        congr 1; simp at hm ⊢; omega
      have gx : (A ++ x :: (Y ++ B))[a]? = some x := by
        rw [List.getElem?_append_right (by omega), ha, Nat.sub_self]; rfl
      have hln : (A ++ x :: (Y ++ B)).length = N := by simp at hm ⊢; omega
      have hyD := hDY y (List.mem_of_getElem? hy)
      simp (disch := omega) only [SX0, SX1, SX2, SX3, SX4, SX5, SX6, SX7, SX8, SU0, SY0, SY1, Nat.reduceAdd, Nat.reduceMul, Nat.reduceSub, Nat.reduceLeDiff, Nat.reduceEqDiff, Nat.reduceLT, Nat.reduceBEq, ↓reduceIte, Int.reduceLE, Int.reduceLT, Int.reduceToNat, Int.reduceNeg, reduceCtorEq, Int.reduceEq, SF0, SF1, SF2, DHb0, DHb1, DHa0, DCg0, DCe0, DCe1, DCe2, DDb0, DBc0, DBc1, DDe0, DAlh0, DAlv0, DBtc0, DBtc1, hw, hh]
      refine awp_draw (bl := []) T_tt mixed 9 (by decide) (by kernel_rfl) (.inr ⟨by kernel_rfl, by kernel_rfl⟩) (by kernel_rfl) ?_
      simp (disch := omega) only [SX0, SX1, SX2, SX3, SX4, SX5, SX6, SX7, SX8, SU0, SY0, SY1, Nat.reduceAdd, Nat.reduceMul, Nat.reduceSub, Nat.reduceLeDiff, Nat.reduceEqDiff, Nat.reduceLT, Nat.reduceBEq, ↓reduceIte, Int.reduceLE, Int.reduceLT, Int.reduceToNat, Int.reduceNeg, reduceCtorEq, Int.reduceEq, SF0, SF1, SF2, DHb0, DHb1, DHa0, DCg0, DCe0, DCe1, DCe2, DDb0, DBc0, DBc1, DDe0, DAlh0, DAlv0, DBtc0, DBtc1, gy, gx]
      repeat (first | refine req (by omega) ?_ | simp (disch := omega) only [SX0, SX1, SX2, SX3, SX4, SX5, SX6, SX7, SX8, SU0, SY0, SY1, Nat.reduceAdd, Nat.reduceMul, Nat.reduceSub, Nat.reduceLeDiff, Nat.reduceEqDiff, Nat.reduceLT, Nat.reduceBEq, ↓reduceIte, Int.reduceLE, Int.reduceLT, Int.reduceToNat, Int.reduceNeg, reduceCtorEq, Int.reduceEq, SF0, SF1, SF2, DHb0, DHb1, DHa0, DCg0, DCe0, DCe1, DCe2, DDb0, DBc0, DBc1, DDe0, DAlh0, DAlv0, DBtc0, DBtc1, gy, gx])
      refine acall_cl (hf y x hyD hxD (hE x (by simp) y (List.mem_of_getElem? hy))) [1] [] (by simp [keepL, nameIn, OB.ren, freeL_ren' _ _ hfr]) (by decide) (by decide) (by rfl) (by simp [AV.ren, nameIn]) ?_
      rintro _ _ ⟨c, rfl, hc, rfl⟩
      simp (disch := omega) only [SX0, SX1, SX2, SX3, SX4, SX5, SX6, SX7, SX8, SU0, SY0, SY1, Nat.reduceAdd, Nat.reduceMul, Nat.reduceSub, Nat.reduceLeDiff, Nat.reduceEqDiff, Nat.reduceLT, Nat.reduceBEq, ↓reduceIte, Int.reduceLE, Int.reduceLT, Int.reduceToNat, Int.reduceNeg, reduceCtorEq, Int.reduceEq, SF0, SF1, SF2, DHb0, DHb1, DHa0, DCg0, DCe0, DCe1, DCe2, DDb0, DBc0, DBc1, DDe0, DAlh0, DAlv0, DBtc0, DBtc1]
      refine br_dec (fun h3 => ?_) (fun h3 => ?_)
      · simp (disch := omega) only [SX0, SX1, SX2, SX3, SX4, SX5, SX6, SX7, SX8, SU0, SY0, SY1, Nat.reduceAdd, Nat.reduceMul, Nat.reduceSub, Nat.reduceLeDiff, Nat.reduceEqDiff, Nat.reduceLT, Nat.reduceBEq, ↓reduceIte, Int.reduceLE, Int.reduceLT, Int.reduceToNat, Int.reduceNeg, reduceCtorEq, Int.reduceEq, SF0, SF1, SF2, DHb0, DHb1, DHa0, DCg0, DCe0, DCe1, DCe2, DDb0, DBc0, DBc1, DDe0, DAlh0, DAlv0, DBtc0, DBtc1]
        refine ⟨((i + j) / 2 + 1, j), ⟨by simp only; omega, q2, .inr ⟨y, by simpa using hy, hc.1 h3⟩, q4⟩, by simp only; omega, ?_⟩
        have e1 : ((m + (i + j) / 2 : Nat) : Int) + 1 = ((m + ((i + j) / 2 + 1) : Nat) : Int) := by omega
        simp only [e1]
        (refine wk_le ?_ ?_ ?_; (focus (simp [W8, leTm, leAV, AV.under, underL, ints, hcs, hren]; done)); (focus (simp [leL, OB.under, underL, AV.under, ints, hcs, hren]; done)); (focus (simp; done)))
      · simp (disch := omega) only [SX0, SX1, SX2, SX3, SX4, SX5, SX6, SX7, SX8, SU0, SY0, SY1, Nat.reduceAdd, Nat.reduceMul, Nat.reduceSub, Nat.reduceLeDiff, Nat.reduceEqDiff, Nat.reduceLT, Nat.reduceBEq, ↓reduceIte, Int.reduceLE, Int.reduceLT, Int.reduceToNat, Int.reduceNeg, reduceCtorEq, Int.reduceEq, SF0, SF1, SF2, DHb0, DHb1, DHa0, DCg0, DCe0, DCe1, DCe2, DDb0, DBc0, DBc1, DDe0, DAlh0, DAlv0, DBtc0, DBtc1]
        refine ⟨(i, (i + j) / 2), ⟨by simp only; omega, by simp only; omega, q3, .inr ⟨y, hy, fun h => h3 (hc.2 h)⟩⟩, by simp only; omega, ?_⟩
        (refine wk_le ?_ ?_ ?_; (focus (simp [W8, leTm, leAV, AV.under, underL, ints, hcs, hren]; done)); (focus (simp [leL, OB.under, underL, AV.under, ints, hcs, hren]; done)); (focus (simp; done)))
    · have hij : i = j := by omega
      subst hij
      have hso := one_right hg hxD hDY hsY q2 q3 q4
      simp (disch := omega) only [SX0, SX1, SX2, SX3, SX4, SX5, SX6, SX7, SX8, SU0, SY0, SY1, Nat.reduceAdd, Nat.reduceMul, Nat.reduceSub, Nat.reduceLeDiff, Nat.reduceEqDiff, Nat.reduceLT, Nat.reduceBEq, ↓reduceIte, Int.reduceLE, Int.reduceLT, Int.reduceToNat, Int.reduceNeg, reduceCtorEq, Int.reduceEq, SF0, SF1, SF2, DHb0, DHb1, DHa0, DCg0, DCe0, DCe1, DCe2, DDb0, DBc0, DBc1, DDe0, DAlh0, DAlv0, DBtc0, DBtc1]
      with_reducible refine awp_loop_h (G := Nat) 14 206 (fun t => [(13, .val (.int .i64 (a + t : Nat)))]) (fun t => [.vec 1 (ints ((A ++ Y.take t) ++ x :: (Y.drop t ++ B))), .cells cs]) (fun t => t ≤ i) (fun t => i - t) 0 (Nat.zero_le _) ?_ (fun t ht => ?_)
      · simp (disch := omega) only [SX0, SX1, SX2, SX3, SX4, SX5, SX6, SX7, SX8, SU0, SY0, SY1, Nat.reduceAdd, Nat.reduceMul, Nat.reduceSub, Nat.reduceLeDiff, Nat.reduceEqDiff, Nat.reduceLT, Nat.reduceBEq, ↓reduceIte, Int.reduceLE, Int.reduceLT, Int.reduceToNat, Int.reduceNeg, reduceCtorEq, Int.reduceEq, SF0, SF1, SF2, DHb0, DHb1, DHa0, DCg0, DCe0, DCe1, DCe2, DDb0, DBc0, DBc1, DDe0, DAlh0, DAlv0, DBtc0, DBtc1]
        (refine wk_le ?_ ?_ ?_; (focus (simp [W8, leTm, leAV, AV.under, underL, ints, hcs, hren]; done)); (focus (simp [leL, OB.under, underL, AV.under, ints, hcs, hren]; done)); (focus (simp; done)))
      refine sx_sound (bl := []) T_tt _ _ _ ?_
      have hc1 : (((m + i : Nat) : Int) - 1) = ((a + i : Nat) : Int) := by simp at hm; omega
      simp (disch := omega) only [SX0, SX1, SX2, SX3, SX4, SX5, SX6, SX7, SX8, SU0, SY0, SY1, Nat.reduceAdd, Nat.reduceMul, Nat.reduceSub, Nat.reduceLeDiff, Nat.reduceEqDiff, Nat.reduceLT, Nat.reduceBEq, ↓reduceIte, Int.reduceLE, Int.reduceLT, Int.reduceToNat, Int.reduceNeg, reduceCtorEq, Int.reduceEq, SF0, SF1, SF2, DHb0, DHb1, DHa0, DCg0, DCe0, DCe1, DCe2, DDb0, DBc0, DBc1, DDe0, DAlh0, DAlv0, DBtc0, DBtc1, hc1]
      refine br_dec (fun h4 => ?_) (fun h4 => ?_)
      · obtain ⟨y, hy⟩ := get_lt (l := Y) (i := t) (by omega)
        have hat : (A ++ Y.take t).length = a + t := by rw [List.length_append, List.length_take]; omega
        have e0 : (A ++ Y.take t) ++ x :: (Y.drop t ++ B) = (A ++ Y.take t) ++ x :: ([] ++ y :: (Y.drop (t + 1) ++ B)) := by rw [drop_consB hy]; rfl
        have e1 : (A ++ Y.take (t + 1)) ++ x :: (Y.drop (t + 1) ++ B) = (A ++ Y.take t) ++ y :: ([] ++ x :: (Y.drop (t + 1) ++ B)) := by rw [List.take_add_one, hy]; simp
        have g1 := two_get1 (A ++ Y.take t) [] (Y.drop (t + 1) ++ B) x y
        have g2 := two_get2 (A ++ Y.take t) [] (Y.drop (t + 1) ++ B) x y
        have g3 := two_set (A ++ Y.take t) [] (Y.drop (t + 1) ++ B) x y
        rw [← e0, hat] at g1
        rw [← e0, hat, List.length_nil, Nat.add_zero] at g2
        rw [← e0, ← e1, hat, List.length_nil, Nat.add_zero] at g3
        have hln : ((A ++ Y.take t) ++ x :: (Y.drop t ++ B)).length = N := by simp at hm ⊢; omega
        generalize (A ++ Y.take t) ++ x :: (Y.drop t ++ B) = S0 at *
        have ek : (((a + t : Nat) : Int) + 1) = ((a + t + 1 : Nat) : Int) := by omega
        have hs2 : ((List.map (fun x => [AV.val (.int .i64 x)]) S0).set (a + t) [AV.val (.int .i64 y)])[a + t + 1]? = some [AV.val (.int .i64 y)] := by
          rw [List.getElem?_set_ne (by omega), List.getElem?_map, g2]; rfl
        have hs3 : ((List.map (fun x => [AV.val (.int .i64 x)]) S0).set (a + t) [AV.val (.int .i64 y)]).set (a + t + 1) [AV.val (.int .i64 x)] = ints ((A ++ Y.take (t + 1)) ++ x :: (Y.drop (t + 1) ++ B)) := by
          rw [← g3]; simp [ints, List.map_set]
        have hln2 : ((List.map (fun x => [AV.val (.int .i64 x)]) S0).set (a + t) [AV.val (.int .i64 y)]).length = N := by simp; omega
        simp (disch := omega) only [SX0, SX1, SX2, SX3, SX4, SX5, SX6, SX7, SX8, SU0, SY0, SY1, Nat.reduceAdd, Nat.reduceMul, Nat.reduceSub, Nat.reduceLeDiff, Nat.reduceEqDiff, Nat.reduceLT, Nat.reduceBEq, ↓reduceIte, Int.reduceLE, Int.reduceLT, Int.reduceToNat, Int.reduceNeg, reduceCtorEq, Int.reduceEq, SF0, SF1, SF2, DHb0, DHb1, DHa0, DCg0, DCe0, DCe1, DCe2, DDb0, DBc0, DBc1, DDe0, DAlh0, DAlv0, DBtc0, DBtc1, ek]
        refine awp_floatG (bl := []) T_tt mixed [0, 1] [0, 1, 2, 3, 4, 5, 6, 7, 8, 9, 10, 11, 12, 13, 14, 16] [0, 1, 2, 3, 4, 5, 6, 7, 8, 9, 10, 11, 12, 13, 14] [⟨15, [0, 1], [(0, .f 61), (1, .f 62), (5, .f 66), (6, .f 67), (7, .f 68), (8, .f 69), (9, .f 70), (10, .f 71), (11, .f 72), (12, .f 73), (13, .f 74), (14, .f 75)], [16], [(2, .f 63), (3, .f 64), (4, .f 65)]⟩, ⟨17, [0, 1], [(2, .f 63), (3, .f 64), (4, .f 65), (16, .f 76)], [], []⟩] [] (by kernel_rfl) (by kernel_rfl) ?_
        simp (disch := omega) only [SX0, SX1, SX2, SX3, SX4, SX5, SX6, SX7, SX8, SU0, SY0, SY1, Nat.reduceAdd, Nat.reduceMul, Nat.reduceSub, Nat.reduceLeDiff, Nat.reduceEqDiff, Nat.reduceLT, Nat.reduceBEq, ↓reduceIte, Int.reduceLE, Int.reduceLT, Int.reduceToNat, Int.reduceNeg, reduceCtorEq, Int.reduceEq, SF0, SF1, SF2, DHb0, DHb1, DHa0, DCg0, DCe0, DCe1, DCe2, DDb0, DBc0, DBc1, DDe0, DAlh0, DAlv0, DBtc0, DBtc1, SX0, ek, g1, g2]
        repeat (first | refine req (by omega) ?_ | simp (disch := omega) only [SX0, SX1, SX2, SX3, SX4, SX5, SX6, SX7, SX8, SU0, SY0, SY1, Nat.reduceAdd, Nat.reduceMul, Nat.reduceSub, Nat.reduceLeDiff, Nat.reduceEqDiff, Nat.reduceLT, Nat.reduceBEq, ↓reduceIte, Int.reduceLE, Int.reduceLT, Int.reduceToNat, Int.reduceNeg, reduceCtorEq, Int.reduceEq, SF0, SF1, SF2, DHb0, DHb1, DHa0, DCg0, DCe0, DCe1, DCe2, DDb0, DBc0, DBc1, DDe0, DAlh0, DAlv0, DBtc0, DBtc1, SX0, ek, g1, g2, hs2, hs3])
        refine ⟨t + 1, by omega, by omega, ?_⟩
        (refine wk_le ?_ ?_ ?_; (focus (simp [W8, leTm, leAV, AV.under, underL, ints, hcs, hren, Int.add_assoc]; done)); (focus (simp [leL, OB.under, underL, AV.under, ints, hcs, hren, Int.add_assoc]; done)); (focus (simp; done)))
      · have hti : t = i := by omega
        subst hti
        have eS : (A ++ Y.take t) ++ x :: (Y.drop t ++ B) = A ++ ((Y.take t ++ x :: Y.drop t) ++ B) := by simp
        rw [eS]
        simp (disch := omega) only [SX0, SX1, SX2, SX3, SX4, SX5, SX6, SX7, SX8, SU0, SY0, SY1, Nat.reduceAdd, Nat.reduceMul, Nat.reduceSub, Nat.reduceLeDiff, Nat.reduceEqDiff, Nat.reduceLT, Nat.reduceBEq, ↓reduceIte, Int.reduceLE, Int.reduceLT, Int.reduceToNat, Int.reduceNeg, reduceCtorEq, Int.reduceEq, SF0, SF1, SF2, DHb0, DHb1, DHa0, DCg0, DCe0, DCe1, DCe2, DDb0, DBc0, DBc1, DDe0, DAlh0, DAlv0, DBtc0, DBtc1]
        refine fin_ks [0, 1] (.tup []) [.vec 1 (ints (A ++ ((Y.take t ++ x :: Y.drop t) ++ B))), .cells cs] ⟨rfl, _, rfl, ?_, hso⟩ rfl (by simp [keepL, nameK, OB.ren, ints, freeL_ren' _ _ hfr]) (by simp) (by simp) (by simp)
        exact List.perm_middle.trans (by rw [List.take_append_drop])
  simp (disch := omega) only [SX0, SX1, SX2, SX3, SX4, SX5, SX6, SX7, SX8, SU0, SY0, SY1, Nat.reduceAdd, Nat.reduceMul, Nat.reduceSub, Nat.reduceLeDiff, Nat.reduceEqDiff, Nat.reduceLT, Nat.reduceBEq, ↓reduceIte, Int.reduceLE, Int.reduceLT, Int.reduceToNat, Int.reduceNeg, reduceCtorEq, Int.reduceEq, SF0, SF1, SF2, DHb0, DHb1, DHa0, DCg0, DCe0, DCe1, DCe2, DDb0, DBc0, DBc1, DDe0, DAlh0, DAlv0, DBtc0, DBtc1]
  refine athen_n (awp_seqB (sx_sound (bl := []) T_tt _ _ _ ?_))
  simp (disch := omega) only [SX0, SX1, SX2, SX3, SX4, SX5, SX6, SX7, SX8, SU0, SY0, SY1, Nat.reduceAdd, Nat.reduceMul, Nat.reduceSub, Nat.reduceLeDiff, Nat.reduceEqDiff, Nat.reduceLT, Nat.reduceBEq, ↓reduceIte, Int.reduceLE, Int.reduceLT, Int.reduceToNat, Int.reduceNeg, reduceCtorEq, Int.reduceEq, SF0, SF1, SF2, DHb0, DHb1, DHa0, DCg0, DCe0, DCe1, DCe2, DDb0, DBc0, DBc1, DDe0, DAlh0, DAlv0, DBtc0, DBtc1]
  refine br_dec (fun h2 => ?_) (fun h2 => ?_)
  · -- one number on the right
    obtain ⟨y, rfl⟩ : ∃ y, Y = [y] := by
      match Y, hY0 with
      | [y], _ => exact ⟨y, rfl⟩
      | y :: y' :: l, _ => simp at hb; omega
    have hyD := hDY y (by simp)
    have hb' : b = m + 1 := hb
    have gy : (A ++ (X ++ y :: B))[m]? = some y := by
      rw [List.getElem?_append_right (by omega), List.getElem?_append_right (by omega), show m - A.length - X.length = 0 by omega]; rfl
    have hln : (A ++ (X ++ y :: B)).length = N := by simp; omega
    simp (disch := omega) only [SX0, SX1, SX2, SX3, SX4, SX5, SX6, SX7, SX8, SU0, SY0, SY1, Nat.reduceAdd, Nat.reduceMul, Nat.reduceSub, Nat.reduceLeDiff, Nat.reduceEqDiff, Nat.reduceLT, Nat.reduceBEq, ↓reduceIte, Int.reduceLE, Int.reduceLT, Int.reduceToNat, Int.reduceNeg, reduceCtorEq, Int.reduceEq, SF0, SF1, SF2, DHb0, DHb1, DHa0, DCg0, DCe0, DCe1, DCe2, DDb0, DBc0, DBc1, DDe0, DAlh0, DAlv0, DBtc0, DBtc1]
    with_reducible refine awp_loop_h (G := Nat × Nat) 16 204 (fun q => [(14, .val (.int .i64 (a + q.1 : Nat))), (15, .val (.int .i64 (a + q.2 : Nat)))]) (fun q => [.vec 1 (ints (A ++ (X ++ y :: B))), .cells cs]) (fun q => q.1 ≤ q.2 ∧ q.2 ≤ X.length ∧ (q.1 = 0 ∨ ∃ x, X[q.1 - 1]? = some x ∧ ¬ g y x < 0) ∧ (q.2 = X.length ∨ ∃ x, X[q.2]? = some x ∧ g y x < 0)) (fun q => q.2 - q.1) (0, X.length) ⟨Nat.zero_le _, Nat.le_refl _, .inl rfl, .inl rfl⟩ ?_ (fun q hq => ?_)
    · have e1 : (m : Int) = ((a + X.length : Nat) : Int) := by omega
      simp (disch := omega) only [SX0, SX1, SX2, SX3, SX4, SX5, SX6, SX7, SX8, SU0, SY0, SY1, Nat.reduceAdd, Nat.reduceMul, Nat.reduceSub, Nat.reduceLeDiff, Nat.reduceEqDiff, Nat.reduceLT, Nat.reduceBEq, ↓reduceIte, Int.reduceLE, Int.reduceLT, Int.reduceToNat, Int.reduceNeg, reduceCtorEq, Int.reduceEq, SF0, SF1, SF2, DHb0, DHb1, DHa0, DCg0, DCe0, DCe1, DCe2, DDb0, DBc0, DBc1, DDe0, DAlh0, DAlv0, DBtc0, DBtc1]
      (refine wk_le ?_ ?_ ?_; (focus (simp [W8, leTm, leAV, AV.under, underL, ints, hcs, hren, e1]; done)); (focus (simp [leL, OB.under, underL, AV.under, ints, hcs, hren, e1]; done)); (focus (simp; done)))
    obtain ⟨i, j⟩ := q
    simp only at hq
    obtain ⟨q1, q2, q3, q4⟩ := hq
    refine sx_sound (bl := []) T_tt _ _ _ ?_
    simp (disch := omega) only [SX0, SX1, SX2, SX3, SX4, SX5, SX6, SX7, SX8, SU0, SY0, SY1, Nat.reduceAdd, Nat.reduceMul, Nat.reduceSub, Nat.reduceLeDiff, Nat.reduceEqDiff, Nat.reduceLT, Nat.reduceBEq, ↓reduceIte, Int.reduceLE, Int.reduceLT, Int.reduceToNat, Int.reduceNeg, reduceCtorEq, Int.reduceEq, SF0, SF1, SF2, DHb0, DHb1, DHa0, DCg0, DCe0, DCe1, DCe2, DDb0, DBc0, DBc1, DDe0, DAlh0, DAlv0, DBtc0, DBtc1]
    refine br_dec (fun h3 => ?_) (fun h3 => ?_)
    · have hw : IntKind.u64.wrap ((a + i : Nat) + (a + j : Nat)) = ((a + i : Nat) + (a + j : Nat) : Int) := wrapU _ (by omega) (by omega)
      have hh : (((a + i : Nat) + (a + j : Nat) : Int) / 2) = ((a + (i + j) / 2 : Nat) : Int) := by omega
      obtain ⟨x, hx⟩ := get_lt (l := X) (i := (i + j) / 2) (by omega)
      have gx : (A ++ (X ++ y :: B))[a + (i + j) / 2]? = some x := by
        rw [List.getElem?_append_right (by omega), List.getElem?_append_left (by omega), ← hx]
        congr 1; omega
      have hxD := hDX x (List.mem_of_getElem? hx)
      simp (disch := omega) only [SX0, SX1, SX2, SX3, SX4, SX5, SX6, SX7, SX8, SU0, SY0, SY1, Nat.reduceAdd, Nat.reduceMul, Nat.reduceSub, Nat.reduceLeDiff, Nat.reduceEqDiff, Nat.reduceLT, Nat.reduceBEq, ↓reduceIte, Int.reduceLE, Int.reduceLT, Int.reduceToNat, Int.reduceNeg, reduceCtorEq, Int.reduceEq, SF0, SF1, SF2, DHb0, DHb1, DHa0, DCg0, DCe0, DCe1, DCe2, DDb0, DBc0, DBc1, DDe0, DAlh0, DAlv0, DBtc0, DBtc1, hw, hh]
      refine awp_draw (bl := []) T_tt mixed 9 (by decide) (by kernel_rfl) (.inr ⟨by kernel_rfl, by kernel_rfl⟩) (by kernel_rfl) ?_
      simp (disch := omega) only [SX0, SX1, SX2, SX3, SX4, SX5, SX6, SX7, SX8, SU0, SY0, SY1, Nat.reduceAdd, Nat.reduceMul, Nat.reduceSub, Nat.reduceLeDiff, Nat.reduceEqDiff, Nat.reduceLT, Nat.reduceBEq, ↓reduceIte, Int.reduceLE, Int.reduceLT, Int.reduceToNat, Int.reduceNeg, reduceCtorEq, Int.reduceEq, SF0, SF1, SF2, DHb0, DHb1, DHa0, DCg0, DCe0, DCe1, DCe2, DDb0, DBc0, DBc1, DDe0, DAlh0, DAlv0, DBtc0, DBtc1, gy, gx]
      repeat (first | refine req (by omega) ?_ | simp (disch := omega) only [SX0, SX1, SX2, SX3, SX4, SX5, SX6, SX7, SX8, SU0, SY0, SY1, Nat.reduceAdd, Nat.reduceMul, Nat.reduceSub, Nat.reduceLeDiff, Nat.reduceEqDiff, Nat.reduceLT, Nat.reduceBEq, ↓reduceIte, Int.reduceLE, Int.reduceLT, Int.reduceToNat, Int.reduceNeg, reduceCtorEq, Int.reduceEq, SF0, SF1, SF2, DHb0, DHb1, DHa0, DCg0, DCe0, DCe1, DCe2, DDb0, DBc0, DBc1, DDe0, DAlh0, DAlv0, DBtc0, DBtc1, gy, gx])
      refine acall_cl (hf y x hyD hxD (hE x (List.mem_of_getElem? hx) y (by simp))) [1] [] (by simp [keepL, nameIn, OB.ren, freeL_ren' _ _ hfr]) (by decide) (by decide) (by rfl) (by simp [AV.ren, nameIn]) ?_
      rintro _ _ ⟨c, rfl, hc, rfl⟩
      simp (disch := omega) only [SX0, SX1, SX2, SX3, SX4, SX5, SX6, SX7, SX8, SU0, SY0, SY1, Nat.reduceAdd, Nat.reduceMul, Nat.reduceSub, Nat.reduceLeDiff, Nat.reduceEqDiff, Nat.reduceLT, Nat.reduceBEq, ↓reduceIte, Int.reduceLE, Int.reduceLT, Int.reduceToNat, Int.reduceNeg, reduceCtorEq, Int.reduceEq, SF0, SF1, SF2, DHb0, DHb1, DHa0, DCg0, DCe0, DCe1, DCe2, DDb0, DBc0, DBc1, DDe0, DAlh0, DAlv0, DBtc0, DBtc1]
      refine br_ndec (fun h4 => ?_) (fun h4 => ?_)
      · simp (disch := omega) only [SX0, SX1, SX2, SX3, SX4, SX5, SX6, SX7, SX8, SU0, SY0, SY1, Nat.reduceAdd, Nat.reduceMul, Nat.reduceSub, Nat.reduceLeDiff, Nat.reduceEqDiff, Nat.reduceLT, Nat.reduceBEq, ↓reduceIte, Int.reduceLE, Int.reduceLT, Int.reduceToNat, Int.reduceNeg, reduceCtorEq, Int.reduceEq, SF0, SF1, SF2, DHb0, DHb1, DHa0, DCg0, DCe0, DCe1, DCe2, DDb0, DBc0, DBc1, DDe0, DAlh0, DAlv0, DBtc0, DBtc1]
        refine ⟨((i + j) / 2 + 1, j), ⟨by simp only; omega, q2, .inr ⟨x, by simpa using hx, fun h => h4 (hc.2 h)⟩, q4⟩, by simp only; omega, ?_⟩
        have e1 : ((a + (i + j) / 2 : Nat) : Int) + 1 = ((a + ((i + j) / 2 + 1) : Nat) : Int) := by omega
        simp only [e1]
        (refine wk_le ?_ ?_ ?_; (focus (simp [W8, leTm, leAV, AV.under, underL, ints, hcs, hren]; done)); (focus (simp [leL, OB.under, underL, AV.under, ints, hcs, hren]; done)); (focus (simp; done)))
      · simp (disch := omega) only [SX0, SX1, SX2, SX3, SX4, SX5, SX6, SX7, SX8, SU0, SY0, SY1, Nat.reduceAdd, Nat.reduceMul, Nat.reduceSub, Nat.reduceLeDiff, Nat.reduceEqDiff, Nat.reduceLT, Nat.reduceBEq, ↓reduceIte, Int.reduceLE, Int.reduceLT, Int.reduceToNat, Int.reduceNeg, reduceCtorEq, Int.reduceEq, SF0, SF1, SF2, DHb0, DHb1, DHa0, DCg0, DCe0, DCe1, DCe2, DDb0, DBc0, DBc1, DDe0, DAlh0, DAlv0, DBtc0, DBtc1]
        refine ⟨(i, (i + j) / 2), ⟨by simp only; omega, by simp only; omega, q3, .inr ⟨x, hx, hc.1 h4⟩⟩, by simp only; omega, ?_⟩
        (refine wk_le ?_ ?_ ?_; (focus (simp [W8, leTm, leAV, AV.under, underL, ints, hcs, hren]; done)); (focus (simp [leL, OB.under, underL, AV.under, ints, hcs, hren]; done)); (focus (simp; done)))
    · have hij : i = j := by omega
      subst hij
      have hso := one_left hg hyD hDX hsX q2 q3 q4
      have eI : (A ++ X.take X.length) ++ y :: (X.drop X.length ++ B) = A ++ (X ++ y :: B) := by simp
      have em : (m : Int) = ((a + X.length : Nat) : Int) := by omega
      simp (disch := omega) only [SX0, SX1, SX2, SX3, SX4, SX5, SX6, SX7, SX8, SU0, SY0, SY1, Nat.reduceAdd, Nat.reduceMul, Nat.reduceSub, Nat.reduceLeDiff, Nat.reduceEqDiff, Nat.reduceLT, Nat.reduceBEq, ↓reduceIte, Int.reduceLE, Int.reduceLT, Int.reduceToNat, Int.reduceNeg, reduceCtorEq, Int.reduceEq, SF0, SF1, SF2, DHb0, DHb1, DHa0, DCg0, DCe0, DCe1, DCe2, DDb0, DBc0, DBc1, DDe0, DAlh0, DAlv0, DBtc0, DBtc1]
      with_reducible refine awp_loop_h (G := Nat) 18 202 (fun t => [(17, .val (.int .i64 (a + t : Nat)))]) (fun t => [.vec 1 (ints ((A ++ X.take t) ++ y :: (X.drop t ++ B))), .cells cs]) (fun t => i ≤ t ∧ t ≤ X.length) (fun t => t - i) X.length ⟨q2, Nat.le_refl _⟩ ?_ (fun t ht => ?_)
      · simp (disch := omega) only [SX0, SX1, SX2, SX3, SX4, SX5, SX6, SX7, SX8, SU0, SY0, SY1, Nat.reduceAdd, Nat.reduceMul, Nat.reduceSub, Nat.reduceLeDiff, Nat.reduceEqDiff, Nat.reduceLT, Nat.reduceBEq, ↓reduceIte, Int.reduceLE, Int.reduceLT, Int.reduceToNat, Int.reduceNeg, reduceCtorEq, Int.reduceEq, SF0, SF1, SF2, DHb0, DHb1, DHa0, DCg0, DCe0, DCe1, DCe2, DDb0, DBc0, DBc1, DDe0, DAlh0, DAlv0, DBtc0, DBtc1]
        (refine wk_le ?_ ?_ ?_; (focus (simp [W8, leTm, leAV, AV.under, underL, ints, hcs, hren, eI, em]; done)); (focus (simp [leL, OB.under, underL, AV.under, ints, hcs, hren, eI, em]; done)); (focus (simp; done)))
      refine sx_sound (bl := []) T_tt _ _ _ ?_
      simp (disch := omega) only [SX0, SX1, SX2, SX3, SX4, SX5, SX6, SX7, SX8, SU0, SY0, SY1, Nat.reduceAdd, Nat.reduceMul, Nat.reduceSub, Nat.reduceLeDiff, Nat.reduceEqDiff, Nat.reduceLT, Nat.reduceBEq, ↓reduceIte, Int.reduceLE, Int.reduceLT, Int.reduceToNat, Int.reduceNeg, reduceCtorEq, Int.reduceEq, SF0, SF1, SF2, DHb0, DHb1, DHa0, DCg0, DCe0, DCe1, DCe2, DDb0, DBc0, DBc1, DDe0, DAlh0, DAlv0, DBtc0, DBtc1]
      refine br_dec (fun h4 => ?_) (fun h4 => ?_)
      · obtain ⟨t, rfl⟩ : ∃ u, t = u + 1 := ⟨t - 1, by omega⟩
        obtain ⟨x, hx⟩ := get_lt (l := X) (i := t) (by omega)
        have hat : (A ++ X.take t).length = a + t := by rw [List.length_append, List.length_take]; omega
        have e0 : (A ++ X.take (t + 1)) ++ y :: (X.drop (t + 1) ++ B) = (A ++ X.take t) ++ x :: ([] ++ y :: (X.drop (t + 1) ++ B)) := by rw [List.take_add_one, hx]; simp
        have e1 : (A ++ X.take t) ++ y :: (X.drop t ++ B) = (A ++ X.take t) ++ y :: ([] ++ x :: (X.drop (t + 1) ++ B)) := by rw [drop_consB hx]; rfl
        have g1 := two_get1 (A ++ X.take t) [] (X.drop (t + 1) ++ B) x y
        have g2 := two_get2 (A ++ X.take t) [] (X.drop (t + 1) ++ B) x y
        have g3 := two_set (A ++ X.take t) [] (X.drop (t + 1) ++ B) x y
        rw [← e0, hat] at g1
        rw [← e0, hat, List.length_nil, Nat.add_zero] at g2
        rw [← e0, ← e1, hat, List.length_nil, Nat.add_zero] at g3
        have hln : ((A ++ X.take (t + 1)) ++ y :: (X.drop (t + 1) ++ B)).length = N := by simp; omega
        generalize (A ++ X.take (t + 1)) ++ y :: (X.drop (t + 1) ++ B) = S0 at *
        have ek : (((a + (t + 1) : Nat) : Int) - 1) = ((a + t : Nat) : Int) := by omega
        have hs2 : ((List.map (fun x => [AV.val (.int .i64 x)]) S0).set (a + (t + 1)) [AV.val (.int .i64 x)])[a + t]? = some [AV.val (.int .i64 x)] := by
          rw [List.getElem?_set_ne (by omega), List.getElem?_map, g1]; rfl
        have hs3 : ((List.map (fun x => [AV.val (.int .i64 x)]) S0).set (a + (t + 1)) [AV.val (.int .i64 x)]).set (a + t) [AV.val (.int .i64 y)] = ints ((A ++ X.take t) ++ y :: (X.drop t ++ B)) := by
          rw [List.set_comm _ _ (by omega), ← g3]; simp [ints, List.map_set, Nat.add_assoc]
        have hln2 : ((List.map (fun x => [AV.val (.int .i64 x)]) S0).set (a + (t + 1)) [AV.val (.int .i64 x)]).length = N := by simp; omega
        have g2' : S0[a + (t + 1)]? = some y := g2
        simp (disch := omega) only [SX0, SX1, SX2, SX3, SX4, SX5, SX6, SX7, SX8, SU0, SY0, SY1, Nat.reduceAdd, Nat.reduceMul, Nat.reduceSub, Nat.reduceLeDiff, Nat.reduceEqDiff, Nat.reduceLT, Nat.reduceBEq, ↓reduceIte, Int.reduceLE, Int.reduceLT, Int.reduceToNat, Int.reduceNeg, reduceCtorEq, Int.reduceEq, SF0, SF1, SF2, DHb0, DHb1, DHa0, DCg0, DCe0, DCe1, DCe2, DDb0, DBc0, DBc1, DDe0, DAlh0, DAlv0, DBtc0, DBtc1, ek]
        refine awp_floatG (bl := []) T_tt mixed [0, 1] [0, 1, 2, 3, 4, 5, 6, 7, 8, 9, 10, 11, 12, 13, 14, 16] [0, 1, 2, 3, 4, 5, 6, 7, 8, 9, 10, 11, 12, 13, 14] [⟨15, [0, 1], [(0, .f 113), (1, .f 114), (5, .f 118), (6, .f 119), (7, .f 120), (8, .f 121), (9, .f 122), (10, .f 123), (11, .f 124), (12, .f 125), (13, .f 126), (14, .f 127)], [16], [(2, .f 115), (3, .f 116), (4, .f 117)]⟩, ⟨17, [0, 1], [(2, .f 115), (3, .f 116), (4, .f 117), (16, .f 128)], [], []⟩] [] (by kernel_rfl) (by kernel_rfl) ?_
        simp (disch := omega) only [SX0, SX1, SX2, SX3, SX4, SX5, SX6, SX7, SX8, SU0, SY0, SY1, Nat.reduceAdd, Nat.reduceMul, Nat.reduceSub, Nat.reduceLeDiff, Nat.reduceEqDiff, Nat.reduceLT, Nat.reduceBEq, ↓reduceIte, Int.reduceLE, Int.reduceLT, Int.reduceToNat, Int.reduceNeg, reduceCtorEq, Int.reduceEq, SF0, SF1, SF2, DHb0, DHb1, DHa0, DCg0, DCe0, DCe1, DCe2, DDb0, DBc0, DBc1, DDe0, DAlh0, DAlv0, DBtc0, DBtc1, SX0, ek, g1, g2']
        repeat (first | refine req (by omega) ?_ | simp (disch := omega) only [SX0, SX1, SX2, SX3, SX4, SX5, SX6, SX7, SX8, SU0, SY0, SY1, Nat.reduceAdd, Nat.reduceMul, Nat.reduceSub, Nat.reduceLeDiff, Nat.reduceEqDiff, Nat.reduceLT, Nat.reduceBEq, ↓reduceIte, Int.reduceLE, Int.reduceLT, Int.reduceToNat, Int.reduceNeg, reduceCtorEq, Int.reduceEq, SF0, SF1, SF2, DHb0, DHb1, DHa0, DCg0, DCe0, DCe1, DCe2, DDb0, DBc0, DBc1, DDe0, DAlh0, DAlv0, DBtc0, DBtc1, SX0, ek, g1, g2', hs2, hs3])
        refine ⟨t, by omega, by omega, ?_⟩
        (refine wk_le ?_ ?_ ?_; (focus (simp [W8, leTm, leAV, AV.under, underL, ints, hcs, hren]; done)); (focus (simp [leL, OB.under, underL, AV.under, ints, hcs, hren]; done)); (focus (simp; done)))
      · have hti : t = i := by omega
        subst hti
        have eS : (A ++ X.take t) ++ y :: (X.drop t ++ B) = A ++ ((X.take t ++ y :: X.drop t) ++ B) := by simp
        rw [eS]
        simp (disch := omega) only [SX0, SX1, SX2, SX3, SX4, SX5, SX6, SX7, SX8, SU0, SY0, SY1, Nat.reduceAdd, Nat.reduceMul, Nat.reduceSub, Nat.reduceLeDiff, Nat.reduceEqDiff, Nat.reduceLT, Nat.reduceBEq, ↓reduceIte, Int.reduceLE, Int.reduceLT, Int.reduceToNat, Int.reduceNeg, reduceCtorEq, Int.reduceEq, SF0, SF1, SF2, DHb0, DHb1, DHa0, DCg0, DCe0, DCe1, DCe2, DDb0, DBc0, DBc1, DDe0, DAlh0, DAlv0, DBtc0, DBtc1]
        refine fin_ks [0, 1] (.tup []) [.vec 1 (ints (A ++ ((X.take t ++ y :: X.drop t) ++ B))), .cells cs] ⟨rfl, _, rfl, ?_, hso⟩ rfl (by simp [keepL, nameK, OB.ren, ints, freeL_ren' _ _ hfr]) (by simp) (by simp) (by simp)
        exact List.perm_middle.trans ((List.perm_append_singleton _ _).symm.trans (by rw [List.take_append_drop]))
  simp (disch := omega) only [SX0, SX1, SX2, SX3, SX4, SX5, SX6, SX7, SX8, SU0, SY0, SY1, Nat.reduceAdd, Nat.reduceMul, Nat.reduceSub, Nat.reduceLeDiff, Nat.reduceEqDiff, Nat.reduceLT, Nat.reduceBEq, ↓reduceIte, Int.reduceLE, Int.reduceLT, Int.reduceToNat, Int.reduceNeg, reduceCtorEq, Int.reduceEq, SF0, SF1, SF2, DHb0, DHb1, DHa0, DCg0, DCe0, DCe1, DCe2, DDb0, DBc0, DBc1, DDe0, DAlh0, DAlv0, DBtc0, DBtc1]
  have hX2 : 2 ≤ X.length := by omega
  have hY2 : 2 ≤ Y.length := by omega
  obtain ⟨mid, hmid⟩ : ∃ mid, mid = (a + b) / 2 := ⟨_, rfl⟩
  have hw : IntKind.u64.wrap ((a : Int) + (b : Int)) = (a : Int) + (b : Int) := wrapU _ (by omega) (by omega)
  have hh : (((a : Int) + (b : Int)) / 2) = (mid : Int) := by omega
  refine athen_n (awp_seqB (sx_sound (bl := []) T_tt _ _ _ ?_))
  simp (disch := omega) only [SX0, SX1, SX2, SX3, SX4, SX5, SX6, SX7, SX8, SU0, SY0, SY1, Nat.reduceAdd, Nat.reduceMul, Nat.reduceSub, Nat.reduceLeDiff, Nat.reduceEqDiff, Nat.reduceLT, Nat.reduceBEq, ↓reduceIte, Int.reduceLE, Int.reduceLT, Int.reduceToNat, Int.reduceNeg, reduceCtorEq, Int.reduceEq, SF0, SF1, SF2, DHb0, DHb1, DHa0, DCg0, DCe0, DCe1, DCe2, DDb0, DBc0, DBc1, DDe0, DAlh0, DAlv0, DBtc0, DBtc1, hw, hh]
  refine athen_n (awp_seqB (sx_sound (bl := []) T_tt _ _ _ ?_))
  simp (disch := omega) only [SX0, SX1, SX2, SX3, SX4, SX5, SX6, SX7, SX8, SU0, SY0, SY1, Nat.reduceAdd, Nat.reduceMul, Nat.reduceSub, Nat.reduceLeDiff, Nat.reduceEqDiff, Nat.reduceLT, Nat.reduceBEq, ↓reduceIte, Int.reduceLE, Int.reduceLT, Int.reduceToNat, Int.reduceNeg, reduceCtorEq, Int.reduceEq, SF0, SF1, SF2, DHb0, DHb1, DHa0, DCg0, DCe0, DCe1, DCe2, DDb0, DBc0, DBc1, DDe0, DAlh0, DAlv0, DBtc0, DBtc1]
  refine athen_n (awp_seqB (sx_sound (bl := []) T_tt _ _ _ ?_))
  simp (disch := omega) only [SX0, SX1, SX2, SX3, SX4, SX5, SX6, SX7, SX8, SU0, SY0, SY1, Nat.reduceAdd, Nat.reduceMul, Nat.reduceSub, Nat.reduceLeDiff, Nat.reduceEqDiff, Nat.reduceLT, Nat.reduceBEq, ↓reduceIte, Int.reduceLE, Int.reduceLT, Int.reduceToNat, Int.reduceNeg, reduceCtorEq, Int.reduceEq, SF0, SF1, SF2, DHb0, DHb1, DHa0, DCg0, DCe0, DCe1, DCe2, DDb0, DBc0, DBc1, DDe0, DAlh0, DAlv0, DBtc0, DBtc1]
  refine athen_n ?_
  refine awp_cut_h (G := Nat × Nat) 22 198 (fun q => [(20, .val (.int .i64 (q.1 : Nat))), (21, .val (.int .i64 (q.2 : Nat)))]) (fun q => [.vec 1 (ints (A ++ (X ++ (Y ++ B)))), .cells cs]) (fun q => (q.1 = mid + m - b ∧ q.2 = mid ∧ mid < m) ∨ (q.1 = a ∧ q.2 = m ∧ m ≤ mid)) (sx_sound (bl := []) T_tt _ _ _ ?_) (fun q hq => ?_)
  · simp (disch := omega) only [SX0, SX1, SX2, SX3, SX4, SX5, SX6, SX7, SX8, SU0, SY0, SY1, Nat.reduceAdd, Nat.reduceMul, Nat.reduceSub, Nat.reduceLeDiff, Nat.reduceEqDiff, Nat.reduceLT, Nat.reduceBEq, ↓reduceIte, Int.reduceLE, Int.reduceLT, Int.reduceToNat, Int.reduceNeg, reduceCtorEq, Int.reduceEq, SF0, SF1, SF2, DHb0, DHb1, DHa0, DCg0, DCe0, DCe1, DCe2, DDb0, DBc0, DBc1, DDe0, DAlh0, DAlv0, DBtc0, DBtc1]
    refine br_dec (fun h3 => ?_) (fun h3 => ?_)
    · have hs0 : ((mid : Int) + (m : Int) - (b : Int)) = ((mid + m - b : Nat) : Int) := by omega
      simp (disch := omega) only [SX0, SX1, SX2, SX3, SX4, SX5, SX6, SX7, SX8, SU0, SY0, SY1, Nat.reduceAdd, Nat.reduceMul, Nat.reduceSub, Nat.reduceLeDiff, Nat.reduceEqDiff, Nat.reduceLT, Nat.reduceBEq, ↓reduceIte, Int.reduceLE, Int.reduceLT, Int.reduceToNat, Int.reduceNeg, reduceCtorEq, Int.reduceEq, SF0, SF1, SF2, DHb0, DHb1, DHa0, DCg0, DCe0, DCe1, DCe2, DDb0, DBc0, DBc1, DDe0, DAlh0, DAlv0, DBtc0, DBtc1, hs0]
      refine cutq (mid + m - b, mid) (.inl ⟨rfl, rfl, by omega⟩) ?_
      (refine wk_le ?_ ?_ ?_; (focus (simp [W8, leTm, leAV, AV.under, underL, ints, hcs, hren]; done)); (focus (simp [leL, OB.under, underL, AV.under, ints, hcs, hren]; done)); (focus (simp; done)))
    · simp (disch := omega) only [SX0, SX1, SX2, SX3, SX4, SX5, SX6, SX7, SX8, SU0, SY0, SY1, Nat.reduceAdd, Nat.reduceMul, Nat.reduceSub, Nat.reduceLeDiff, Nat.reduceEqDiff, Nat.reduceLT, Nat.reduceBEq, ↓reduceIte, Int.reduceLE, Int.reduceLT, Int.reduceToNat, Int.reduceNeg, reduceCtorEq, Int.reduceEq, SF0, SF1, SF2, DHb0, DHb1, DHa0, DCg0, DCe0, DCe1, DCe2, DDb0, DBc0, DBc1, DDe0, DAlh0, DAlv0, DBtc0, DBtc1]
      refine cutq (a, m) (.inr ⟨rfl, rfl, by omega⟩) ?_
      (refine wk_le ?_ ?_ ?_; (focus (simp [W8, leTm, leAV, AV.under, underL, ints, hcs, hren]; done)); (focus (simp [leL, OB.under, underL, AV.under, ints, hcs, hren]; done)); (focus (simp; done)))
  obtain ⟨s0, r0⟩ := q
  simp only at hq
  obtain ⟨f1, f2, f3, f4, f5⟩ : a ≤ s0 ∧ s0 ≤ r0 ∧ r0 ≤ mid ∧ r0 ≤ m ∧ mid + m ≤ b + s0 := by
    rcases hq with ⟨e1, e2, e3⟩ | ⟨e1, e2, e3⟩ <;> omega
  have f6 : s0 = a ∨ mid + m = b + s0 := by
    rcases hq with ⟨e1, e2, e3⟩ | ⟨e1, e2, e3⟩ <;> omega
  have f7 : r0 = m ∨ r0 = mid := by
    rcases hq with ⟨e1, e2, e3⟩ | ⟨e1, e2, e3⟩ <;> omega
  clear hq
  refine awp_seqB (sx_sound (bl := []) T_tt _ _ _ ?_)
  simp (disch := omega) only [SX0, SX1, SX2, SX3, SX4, SX5, SX6, SX7, SX8, SU0, SY0, SY1, Nat.reduceAdd, Nat.reduceMul, Nat.reduceSub, Nat.reduceLeDiff, Nat.reduceEqDiff, Nat.reduceLT, Nat.reduceBEq, ↓reduceIte, Int.reduceLE, Int.reduceLT, Int.reduceToNat, Int.reduceNeg, reduceCtorEq, Int.reduceEq, SF0, SF1, SF2, DHb0, DHb1, DHa0, DCg0, DCe0, DCe1, DCe2, DDb0, DBc0, DBc1, DDe0, DAlh0, DAlv0, DBtc0, DBtc1]
  refine athen_n (awp_seqB (sx_sound (bl := []) T_tt _ _ _ ?_))
  simp (disch := omega) only [SX0, SX1, SX2, SX3, SX4, SX5, SX6, SX7, SX8, SU0, SY0, SY1, Nat.reduceAdd, Nat.reduceMul, Nat.reduceSub, Nat.reduceLeDiff, Nat.reduceEqDiff, Nat.reduceLT, Nat.reduceBEq, ↓reduceIte, Int.reduceLE, Int.reduceLT, Int.reduceToNat, Int.reduceNeg, reduceCtorEq, Int.reduceEq, SF0, SF1, SF2, DHb0, DHb1, DHa0, DCg0, DCe0, DCe1, DCe2, DDb0, DBc0, DBc1, DDe0, DAlh0, DAlv0, DBtc0, DBtc1]
  with_reducible refine awp_loop_h (G := Nat × Nat) 23 197 (fun q => [(20, .val (.int .i64 (q.1 : Nat))), (21, .val (.int .i64 (q.2 : Nat)))]) (fun q => [.vec 1 (ints (A ++ (X ++ (Y ++ B)))), .cells cs]) (fun q => s0 ≤ q.1 ∧ q.1 ≤ q.2 ∧ q.2 ≤ r0 ∧ (q.1 = s0 ∨ ∃ x y, X[q.1 - 1 - a]? = some x ∧ Y[mid - q.1]? = some y ∧ ¬ g y x < 0) ∧ (q.2 = r0 ∨ ∃ x y, X[q.2 - a]? = some x ∧ Y[mid - 1 - q.2]? = some y ∧ g y x < 0)) (fun q => q.2 - q.1) (s0, r0) ⟨Nat.le_refl _, f2, Nat.le_refl _, .inl rfl, .inl rfl⟩ ?_ (fun q hq => ?_)
  · simp (disch := omega) only [SX0, SX1, SX2, SX3, SX4, SX5, SX6, SX7, SX8, SU0, SY0, SY1, Nat.reduceAdd, Nat.reduceMul, Nat.reduceSub, Nat.reduceLeDiff, Nat.reduceEqDiff, Nat.reduceLT, Nat.reduceBEq, ↓reduceIte, Int.reduceLE, Int.reduceLT, Int.reduceToNat, Int.reduceNeg, reduceCtorEq, Int.reduceEq, SF0, SF1, SF2, DHb0, DHb1, DHa0, DCg0, DCe0, DCe1, DCe2, DDb0, DBc0, DBc1, DDe0, DAlh0, DAlv0, DBtc0, DBtc1]
    (refine wk_le ?_ ?_ ?_; (focus (simp [W8, leTm, leAV, AV.under, underL, ints, hcs, hren]; done)); (focus (simp [leL, OB.under, underL, AV.under, ints, hcs, hren]; done)); (focus (simp; done)))
  obtain ⟨i, j⟩ := q
  simp only at hq
  obtain ⟨q0, q1, q2, q3, q4⟩ := hq
  refine sx_sound (bl := []) T_tt _ _ _ ?_
  simp (disch := omega) only [SX0, SX1, SX2, SX3, SX4, SX5, SX6, SX7, SX8, SU0, SY0, SY1, Nat.reduceAdd, Nat.reduceMul, Nat.reduceSub, Nat.reduceLeDiff, Nat.reduceEqDiff, Nat.reduceLT, Nat.reduceBEq, ↓reduceIte, Int.reduceLE, Int.reduceLT, Int.reduceToNat, Int.reduceNeg, reduceCtorEq, Int.reduceEq, SF0, SF1, SF2, DHb0, DHb1, DHa0, DCg0, DCe0, DCe1, DCe2, DDb0, DBc0, DBc1, DDe0, DAlh0, DAlv0, DBtc0, DBtc1]
  refine br_dec (fun h4 => ?_) (fun h4 => ?_)
  · obtain ⟨c, hcd⟩ : ∃ c, c = (i + j) / 2 := ⟨_, rfl⟩
    have hw2 : IntKind.u64.wrap ((i : Int) + (j : Int)) = (i : Int) + (j : Int) := wrapU _ (by omega) (by omega)
    have hh2 : (((i : Int) + (j : Int)) / 2) = (c : Int) := by omega
    obtain ⟨x, hx⟩ := get_lt (l := X) (i := c - a) (by omega)
    obtain ⟨y, hy⟩ := get_lt (l := Y) (i := mid - 1 - c) (by omega)
    have gx : (A ++ (X ++ (Y ++ B)))[c]? = some x := by
      rw [List.getElem?_append_right (by omega), List.getElem?_append_left (by omega), ← hx, ha]
    have ep : ((mid : Int) + (m : Int) - 1 - (c : Int)) = ((mid + m - 1 - c : Nat) : Int) := by omega
    have gy : (A ++ (X ++ (Y ++ B)))[mid + m - 1 - c]? = some y := by
      rw [List.getElem?_append_right (by omega), List.getElem?_append_right (by omega), List.getElem?_append_left (by omega), ← hy]
      congr 1; omega
    have hln : (A ++ (X ++ (Y ++ B))).length = N := by simp; omega
    have hxD := hDX x (List.mem_of_getElem? hx)
    have hyD := hDY y (List.mem_of_getElem? hy)
    simp (disch := omega) only [SX0, SX1, SX2, SX3, SX4, SX5, SX6, SX7, SX8, SU0, SY0, SY1, Nat.reduceAdd, Nat.reduceMul, Nat.reduceSub, Nat.reduceLeDiff, Nat.reduceEqDiff, Nat.reduceLT, Nat.reduceBEq, ↓reduceIte, Int.reduceLE, Int.reduceLT, Int.reduceToNat, Int.reduceNeg, reduceCtorEq, Int.reduceEq, SF0, SF1, SF2, DHb0, DHb1, DHa0, DCg0, DCe0, DCe1, DCe2, DDb0, DBc0, DBc1, DDe0, DAlh0, DAlv0, DBtc0, DBtc1, hw2, hh2]
    refine awp_draw (bl := []) T_tt mixed 11 (by decide) (by kernel_rfl) (.inr ⟨by kernel_rfl, by kernel_rfl⟩) (by kernel_rfl) ?_
    simp (disch := omega) only [SX0, SX1, SX2, SX3, SX4, SX5, SX6, SX7, SX8, SU0, SY0, SY1, Nat.reduceAdd, Nat.reduceMul, Nat.reduceSub, Nat.reduceLeDiff, Nat.reduceEqDiff, Nat.reduceLT, Nat.reduceBEq, ↓reduceIte, Int.reduceLE, Int.reduceLT, Int.reduceToNat, Int.reduceNeg, reduceCtorEq, Int.reduceEq, SF0, SF1, SF2, DHb0, DHb1, DHa0, DCg0, DCe0, DCe1, DCe2, DDb0, DBc0, DBc1, DDe0, DAlh0, DAlv0, DBtc0, DBtc1, ep, gy, gx]
    repeat (first | refine req (by omega) ?_ | simp (disch := omega) only [SX0, SX1, SX2, SX3, SX4, SX5, SX6, SX7, SX8, SU0, SY0, SY1, Nat.reduceAdd, Nat.reduceMul, Nat.reduceSub, Nat.reduceLeDiff, Nat.reduceEqDiff, Nat.reduceLT, Nat.reduceBEq, ↓reduceIte, Int.reduceLE, Int.reduceLT, Int.reduceToNat, Int.reduceNeg, reduceCtorEq, Int.reduceEq, SF0, SF1, SF2, DHb0, DHb1, DHa0, DCg0, DCe0, DCe1, DCe2, DDb0, DBc0, DBc1, DDe0, DAlh0, DAlv0, DBtc0, DBtc1, ep, gy, gx])
    refine acall_cl (hf y x hyD hxD (hE x (List.mem_of_getElem? hx) y (List.mem_of_getElem? hy))) [1] [] (by simp [keepL, nameIn, OB.ren, freeL_ren' _ _ hfr]) (by decide) (by decide) (by rfl) (by simp [AV.ren, nameIn]) ?_
    rintro _ _ ⟨cc, rfl, hc, rfl⟩
    simp (disch := omega) only [SX0, SX1, SX2, SX3, SX4, SX5, SX6, SX7, SX8, SU0, SY0, SY1, Nat.reduceAdd, Nat.reduceMul, Nat.reduceSub, Nat.reduceLeDiff, Nat.reduceEqDiff, Nat.reduceLT, Nat.reduceBEq, ↓reduceIte, Int.reduceLE, Int.reduceLT, Int.reduceToNat, Int.reduceNeg, reduceCtorEq, Int.reduceEq, SF0, SF1, SF2, DHb0, DHb1, DHa0, DCg0, DCe0, DCe1, DCe2, DDb0, DBc0, DBc1, DDe0, DAlh0, DAlv0, DBtc0, DBtc1]
    refine br_ndec (fun h5 => ?_) (fun h5 => ?_)
    · simp (disch := omega) only [SX0, SX1, SX2, SX3, SX4, SX5, SX6, SX7, SX8, SU0, SY0, SY1, Nat.reduceAdd, Nat.reduceMul, Nat.reduceSub, Nat.reduceLeDiff, Nat.reduceEqDiff, Nat.reduceLT, Nat.reduceBEq, ↓reduceIte, Int.reduceLE, Int.reduceLT, Int.reduceToNat, Int.reduceNeg, reduceCtorEq, Int.reduceEq, SF0, SF1, SF2, DHb0, DHb1, DHa0, DCg0, DCe0, DCe1, DCe2, DDb0, DBc0, DBc1, DDe0, DAlh0, DAlv0, DBtc0, DBtc1]
      refine ⟨(c + 1, j), ⟨by simp only; omega, by simp only; omega, q2, .inr ⟨x, y, by simpa using hx, by rw [show mid - (c + 1) = mid - 1 - c by omega]; exact hy, fun h => h5 (hc.2 h)⟩, q4⟩, by simp only; omega, ?_⟩
      (refine wk_le ?_ ?_ ?_; (focus (simp [W8, leTm, leAV, AV.under, underL, ints, hcs, hren]; done)); (focus (simp [leL, OB.under, underL, AV.under, ints, hcs, hren]; done)); (focus (simp; done)))
    · simp (disch := omega) only [SX0, SX1, SX2, SX3, SX4, SX5, SX6, SX7, SX8, SU0, SY0, SY1, Nat.reduceAdd, Nat.reduceMul, Nat.reduceSub, Nat.reduceLeDiff, Nat.reduceEqDiff, Nat.reduceLT, Nat.reduceBEq, ↓reduceIte, Int.reduceLE, Int.reduceLT, Int.reduceToNat, Int.reduceNeg, reduceCtorEq, Int.reduceEq, SF0, SF1, SF2, DHb0, DHb1, DHa0, DCg0, DCe0, DCe1, DCe2, DDb0, DBc0, DBc1, DDe0, DAlh0, DAlv0, DBtc0, DBtc1]
      refine ⟨(i, c), ⟨q0, by simp only; omega, by simp only; omega, q3, .inr ⟨x, y, hx, hy, hc.1 h5⟩⟩, by simp only; omega, ?_⟩
      (refine wk_le ?_ ?_ ?_; (focus (simp [W8, leTm, leAV, AV.under, underL, ints, hcs, hren]; done)); (focus (simp [leL, OB.under, underL, AV.under, ints, hcs, hren]; done)); (focus (simp; done)))
  simp (disch := omega) only [SX0, SX1, SX2, SX3, SX4, SX5, SX6, SX7, SX8, SU0, SY0, SY1, Nat.reduceAdd, Nat.reduceMul, Nat.reduceSub, Nat.reduceLeDiff, Nat.reduceEqDiff, Nat.reduceLT, Nat.reduceBEq, ↓reduceIte, Int.reduceLE, Int.reduceLT, Int.reduceToNat, Int.reduceNeg, reduceCtorEq, Int.reduceEq, SF0, SF1, SF2, DHb0, DHb1, DHa0, DCg0, DCe0, DCe1, DCe2, DDb0, DBc0, DBc1, DDe0, DAlh0, DAlv0, DBtc0, DBtc1]
  have hij : i = j := by omega
  subst hij
  obtain ⟨u, hu⟩ : ∃ u, u = i - a := ⟨_, rfl⟩
  obtain ⟨v, hv⟩ : ∃ v, v = mid - i := ⟨_, rfl⟩
  have hi1 : a ≤ i := by omega
  have hi2 : i ≤ m := by omega
  have hi3 : i ≤ mid := by omega
  have hul : u ≤ X.length := by omega
  have hvl : v ≤ Y.length := by omega
  have k1 : i - 1 - a = u - 1 := by omega
  have k4 : mid - 1 - i = v - 1 := by omega
  rw [k1, ← hv] at q3
  rw [← hu, k4] at q4
  have p1 : u = 0 ∨ v = Y.length ∨ ∃ x y, X[u - 1]? = some x ∧ Y[v]? = some y ∧ ¬ g y x < 0 := by
    rcases q3 with q | q
    · clear q4
      rcases f6 with h | h
      · exact .inl (by omega)
      · exact .inr (.inl (by omega))
    · exact .inr (.inr q)
  have p2 : v = 0 ∨ u = X.length ∨ ∃ x y, X[u]? = some x ∧ Y[v - 1]? = some y ∧ g y x < 0 := by
    rcases q4 with q | q
    · clear q3 p1
      rcases f7 with h | h
      · exact .inr (.inl (by omega))
      · exact .inl (by omega)
    · exact .inr (.inr q)
  obtain ⟨e, he⟩ : ∃ e, e = mid + m - i := ⟨_, rfl⟩
  have hend : ((mid : Int) + (m : Int) - (i : Int)) = (e : Int) := by omega
  have hl1 : (X.take u).length = u := by rw [List.length_take]; omega
  have hl2 : (X.drop u).length = X.length - u := by rw [List.length_drop]
  have hl3 : (Y.take v).length = v := by rw [List.length_take]; omega
  have hl4 : (Y.drop v).length = Y.length - v := by rw [List.length_drop]
  have s1 : srt g (X.take u) := List.Pairwise.sublist (List.take_sublist _ _) hsX
  have s2 : srt g (X.drop u) := List.Pairwise.sublist (List.drop_sublist _ _) hsX
  have s3 : srt g (Y.take v) := List.Pairwise.sublist (List.take_sublist _ _) hsY
  have s4 : srt g (Y.drop v) := List.Pairwise.sublist (List.drop_sublist _ _) hsY
  have d1 : ∀ x ∈ X.take u, D x := fun x hx => hDX x (List.mem_of_mem_take hx)
  have d2 : ∀ x ∈ X.drop u, D x := fun x hx => hDX x (List.mem_of_mem_drop hx)
  have d3 : ∀ x ∈ Y.take v, D x := fun x hx => hDY x (List.mem_of_mem_take hx)
  have d4 : ∀ x ∈ Y.drop v, D x := fun x hx => hDY x (List.mem_of_mem_drop hx)
  have e1 : ∀ x ∈ X.take u, ∀ y ∈ Y.take v, E y x := fun x hx y hy => hE x (List.mem_of_mem_take hx) y (List.mem_of_mem_take hy)
  have e2 : ∀ x ∈ X.drop u, ∀ y ∈ Y.drop v, E y x := fun x hx y hy => hE x (List.mem_of_mem_drop hx) y (List.mem_of_mem_drop hy)
  have hal := fun (M1 M2 : List Int) => halves (M1 := M1) (M2 := M2) hg hsX hsY hDX hDY hul hvl p1 p2
  have eX : X.take u ++ X.drop u = X := List.take_append_drop u X
  have eY : Y.take v ++ Y.drop v = Y := List.take_append_drop v Y
  have eS : A ++ (X ++ (Y ++ B)) = (A ++ X.take u) ++ (X.drop u ++ (Y.take v ++ (Y.drop v ++ B))) := by
    conv => lhs; rw [← eX, ← eY]
    simp only [List.append_assoc]
  rw [eS]
  clear p1 p2 q3 q4 q0 q1 q2 eS
  generalize X.take u = X1 at *
  generalize X.drop u = X2 at *
  generalize Y.take v = Y1 at *
  generalize Y.drop v = Y2 at *

  refine athen_n (awp_seqB (sx_sound (bl := []) T_tt _ _ _ ?_))
  simp (disch := omega) only [SX0, SX1, SX2, SX3, SX4, SX5, SX6, SX7, SX8, SU0, SY0, SY1, Nat.reduceAdd, Nat.reduceMul, Nat.reduceSub, Nat.reduceLeDiff, Nat.reduceEqDiff, Nat.reduceLT, Nat.reduceBEq, ↓reduceIte, Int.reduceLE, Int.reduceLT, Int.reduceToNat, Int.reduceNeg, reduceCtorEq, Int.reduceEq, SF0, SF1, SF2, DHb0, DHb1, DHa0, DCg0, DCe0, DCe1, DCe2, DDb0, DBc0, DBc1, DDe0, DAlh0, DAlv0, DBtc0, DBtc1, hend]
  refine athen_n ?_
  refine awp_cut_h (G := Unit) 25 195 (fun _ => []) (fun _ => [.vec 1 (ints (A ++ (X1 ++ (Y1 ++ (X2 ++ (Y2 ++ B)))))), .cells cs]) (fun _ => True) (sx_sound (bl := []) T_tt _ _ _ ?_) (fun _ _ => ?_)
  · have same : X2 = [] ∨ Y1 = [] → (A ++ X1) ++ (X2 ++ (Y1 ++ (Y2 ++ B))) = A ++ (X1 ++ (Y1 ++ (X2 ++ (Y2 ++ B)))) := by
      rintro (rfl | rfl) <;> simp
    simp (disch := omega) only [SX0, SX1, SX2, SX3, SX4, SX5, SX6, SX7, SX8, SU0, SY0, SY1, Nat.reduceAdd, Nat.reduceMul, Nat.reduceSub, Nat.reduceLeDiff, Nat.reduceEqDiff, Nat.reduceLT, Nat.reduceBEq, ↓reduceIte, Int.reduceLE, Int.reduceLT, Int.reduceToNat, Int.reduceNeg, reduceCtorEq, Int.reduceEq, SF0, SF1, SF2, DHb0, DHb1, DHa0, DCg0, DCe0, DCe1, DCe2, DDb0, DBc0, DBc1, DDe0, DAlh0, DAlv0, DBtc0, DBtc1]
    refine br_dec (fun h5 => ?_) (fun h5 => ?_)
    · simp (disch := omega) only [SX0, SX1, SX2, SX3, SX4, SX5, SX6, SX7, SX8, SU0, SY0, SY1, Nat.reduceAdd, Nat.reduceMul, Nat.reduceSub, Nat.reduceLeDiff, Nat.reduceEqDiff, Nat.reduceLT, Nat.reduceBEq, ↓reduceIte, Int.reduceLE, Int.reduceLT, Int.reduceToNat, Int.reduceNeg, reduceCtorEq, Int.reduceEq, SF0, SF1, SF2, DHb0, DHb1, DHa0, DCg0, DCe0, DCe1, DCe2, DDb0, DBc0, DBc1, DDe0, DAlh0, DAlv0, DBtc0, DBtc1]
      refine br_dec (fun h6 => ?_) (fun h6 => ?_)
      · have RO := rotateC_c f cs hcs hfr (A ++ X1) X2 Y1 (Y2 ++ B) (by omega) (by omega) N i m e (by simp; omega) (by simp; omega) (by simp; omega) (by simp; omega) hN2
        simp (disch := omega) only [SX0, SX1, SX2, SX3, SX4, SX5, SX6, SX7, SX8, SU0, SY0, SY1, Nat.reduceAdd, Nat.reduceMul, Nat.reduceSub, Nat.reduceLeDiff, Nat.reduceEqDiff, Nat.reduceLT, Nat.reduceBEq, ↓reduceIte, Int.reduceLE, Int.reduceLT, Int.reduceToNat, Int.reduceNeg, reduceCtorEq, Int.reduceEq, SF0, SF1, SF2, DHb0, DHb1, DHa0, DCg0, DCe0, DCe1, DCe2, DDb0, DBc0, DBc1, DDe0, DAlh0, DAlv0, DBtc0, DBtc1]
        refine acall_own RO [0, 1] [] (by simp [keepL, nameIn, OB.ren, freeL_ren' _ _ hfr, ints]) (by decide) (by decide) (by rfl) (by simp [AV.ren, nameIn, renL]) ?_
        rintro _ _ ⟨rfl, rfl⟩
        simp (disch := omega) only [SX0, SX1, SX2, SX3, SX4, SX5, SX6, SX7, SX8, SU0, SY0, SY1, Nat.reduceAdd, Nat.reduceMul, Nat.reduceSub, Nat.reduceLeDiff, Nat.reduceEqDiff, Nat.reduceLT, Nat.reduceBEq, ↓reduceIte, Int.reduceLE, Int.reduceLT, Int.reduceToNat, Int.reduceNeg, reduceCtorEq, Int.reduceEq, SF0, SF1, SF2, DHb0, DHb1, DHa0, DCg0, DCe0, DCe1, DCe2, DDb0, DBc0, DBc1, DDe0, DAlh0, DAlv0, DBtc0, DBtc1, hren]
        refine cutq () trivial ?_
        (refine wk_le ?_ ?_ ?_; (focus (simp [W8, leTm, leAV, AV.under, underL, ints, hcs, hren, List.append_assoc]; done)); (focus (simp [leL, OB.under, underL, AV.under, ints, hcs, hren, List.append_assoc]; done)); (focus (simp; done)))
      · rw [same (.inr (List.length_eq_zero_iff.1 (by omega)))]
        simp (disch := omega) only [SX0, SX1, SX2, SX3, SX4, SX5, SX6, SX7, SX8, SU0, SY0, SY1, Nat.reduceAdd, Nat.reduceMul, Nat.reduceSub, Nat.reduceLeDiff, Nat.reduceEqDiff, Nat.reduceLT, Nat.reduceBEq, ↓reduceIte, Int.reduceLE, Int.reduceLT, Int.reduceToNat, Int.reduceNeg, reduceCtorEq, Int.reduceEq, SF0, SF1, SF2, DHb0, DHb1, DHa0, DCg0, DCe0, DCe1, DCe2, DDb0, DBc0, DBc1, DDe0, DAlh0, DAlv0, DBtc0, DBtc1]
        refine cutq () trivial ?_
        (refine wk_le ?_ ?_ ?_; (focus (simp [W8, leTm, leAV, AV.under, underL, ints, hcs, hren]; done)); (focus (simp [leL, OB.under, underL, AV.under, ints, hcs, hren]; done)); (focus (simp; done)))
    · rw [same (.inl (List.length_eq_zero_iff.1 (by omega)))]
      simp (disch := omega) only [SX0, SX1, SX2, SX3, SX4, SX5, SX6, SX7, SX8, SU0, SY0, SY1, Nat.reduceAdd, Nat.reduceMul, Nat.reduceSub, Nat.reduceLeDiff, Nat.reduceEqDiff, Nat.reduceLT, Nat.reduceBEq, ↓reduceIte, Int.reduceLE, Int.reduceLT, Int.reduceToNat, Int.reduceNeg, reduceCtorEq, Int.reduceEq, SF0, SF1, SF2, DHb0, DHb1, DHa0, DCg0, DCe0, DCe1, DCe2, DDb0, DBc0, DBc1, DDe0, DAlh0, DAlv0, DBtc0, DBtc1]
      refine cutq () trivial ?_
      (refine wk_le ?_ ?_ ?_; (focus (simp [W8, leTm, leAV, AV.under, underL, ints, hcs, hren]; done)); (focus (simp [leL, OB.under, underL, AV.under, ints, hcs, hren]; done)); (focus (simp; done)))
  refine awp_cut_h (G := List Int) 25 195 (fun _ => []) (fun M1 => [.vec 1 (ints (A ++ (M1 ++ (X2 ++ (Y2 ++ B))))), .cells cs]) (fun M1 => M1.Perm (X1 ++ Y1) ∧ srt g M1) (sx_sound (bl := []) T_tt _ _ _ ?_) (fun M1 hM1 => ?_)
  · have same : A ++ (X1 ++ (Y1 ++ (X2 ++ (Y2 ++ B)))) = A ++ ((X1 ++ Y1) ++ (X2 ++ (Y2 ++ B))) := by simp
    have hone : X1 = [] ∨ Y1 = [] → srt g (X1 ++ Y1) := by
      rintro (rfl | rfl)
      · exact s3
      · rw [List.append_nil]; exact s1
    simp (disch := omega) only [SX0, SX1, SX2, SX3, SX4, SX5, SX6, SX7, SX8, SU0, SY0, SY1, Nat.reduceAdd, Nat.reduceMul, Nat.reduceSub, Nat.reduceLeDiff, Nat.reduceEqDiff, Nat.reduceLT, Nat.reduceBEq, ↓reduceIte, Int.reduceLE, Int.reduceLT, Int.reduceToNat, Int.reduceNeg, reduceCtorEq, Int.reduceEq, SF0, SF1, SF2, DHb0, DHb1, DHa0, DCg0, DCe0, DCe1, DCe2, DDb0, DBc0, DBc1, DDe0, DAlh0, DAlv0, DBtc0, DBtc1]
    refine br_dec (fun h5 => ?_) (fun h5 => ?_)
    · simp (disch := omega) only [SX0, SX1, SX2, SX3, SX4, SX5, SX6, SX7, SX8, SU0, SY0, SY1, Nat.reduceAdd, Nat.reduceMul, Nat.reduceSub, Nat.reduceLeDiff, Nat.reduceEqDiff, Nat.reduceLT, Nat.reduceBEq, ↓reduceIte, Int.reduceLE, Int.reduceLT, Int.reduceToNat, Int.reduceNeg, reduceCtorEq, Int.reduceEq, SF0, SF1, SF2, DHb0, DHb1, DHa0, DCg0, DCe0, DCe1, DCe2, DDb0, DBc0, DBc1, DDe0, DAlh0, DAlv0, DBtc0, DBtc1]
      refine br_dec (fun h6 => ?_) (fun h6 => ?_)
      · have R1 := ih A X1 Y1 (X2 ++ (Y2 ++ B)) N a i mid (by omega) (by omega) (by omega) d1 d3 e1 s1 s3 ha (by omega) (by omega) (by simp; omega) hN2
        simp (disch := omega) only [SX0, SX1, SX2, SX3, SX4, SX5, SX6, SX7, SX8, SU0, SY0, SY1, Nat.reduceAdd, Nat.reduceMul, Nat.reduceSub, Nat.reduceLeDiff, Nat.reduceEqDiff, Nat.reduceLT, Nat.reduceBEq, ↓reduceIte, Int.reduceLE, Int.reduceLT, Int.reduceToNat, Int.reduceNeg, reduceCtorEq, Int.reduceEq, SF0, SF1, SF2, DHb0, DHb1, DHa0, DCg0, DCe0, DCe1, DCe2, DDb0, DBc0, DBc1, DDe0, DAlh0, DAlv0, DBtc0, DBtc1]
        refine acall_own R1 [0, 1] [] (by simp [keepL, nameIn, OB.ren, freeL_ren' _ _ hfr, ints]) (by decide) (by decide) (by rfl) (by simp [AV.ren, nameIn, renL]) ?_
        rintro _ _ ⟨rfl, M1, rfl, hp1, hs1⟩
        simp (disch := omega) only [SX0, SX1, SX2, SX3, SX4, SX5, SX6, SX7, SX8, SU0, SY0, SY1, Nat.reduceAdd, Nat.reduceMul, Nat.reduceSub, Nat.reduceLeDiff, Nat.reduceEqDiff, Nat.reduceLT, Nat.reduceBEq, ↓reduceIte, Int.reduceLE, Int.reduceLT, Int.reduceToNat, Int.reduceNeg, reduceCtorEq, Int.reduceEq, SF0, SF1, SF2, DHb0, DHb1, DHa0, DCg0, DCe0, DCe1, DCe2, DDb0, DBc0, DBc1, DDe0, DAlh0, DAlv0, DBtc0, DBtc1, hren]
        refine cutq M1 ⟨hp1, hs1⟩ ?_
        (refine wk_le ?_ ?_ ?_; (focus (simp [W8, leTm, leAV, AV.under, underL, ints, hcs, hren]; done)); (focus (simp [leL, OB.under, underL, AV.under, ints, hcs, hren]; done)); (focus (simp; done)))
      · rw [same]
        simp (disch := omega) only [SX0, SX1, SX2, SX3, SX4, SX5, SX6, SX7, SX8, SU0, SY0, SY1, Nat.reduceAdd, Nat.reduceMul, Nat.reduceSub, Nat.reduceLeDiff, Nat.reduceEqDiff, Nat.reduceLT, Nat.reduceBEq, ↓reduceIte, Int.reduceLE, Int.reduceLT, Int.reduceToNat, Int.reduceNeg, reduceCtorEq, Int.reduceEq, SF0, SF1, SF2, DHb0, DHb1, DHa0, DCg0, DCe0, DCe1, DCe2, DDb0, DBc0, DBc1, DDe0, DAlh0, DAlv0, DBtc0, DBtc1]
        refine cutq (X1 ++ Y1) ⟨.rfl, hone (.inr (List.length_eq_zero_iff.1 (by omega)))⟩ ?_
        (refine wk_le ?_ ?_ ?_; (focus (simp [W8, leTm, leAV, AV.under, underL, ints, hcs, hren]; done)); (focus (simp [leL, OB.under, underL, AV.under, ints, hcs, hren]; done)); (focus (simp; done)))
    · rw [same]
      simp (disch := omega) only [SX0, SX1, SX2, SX3, SX4, SX5, SX6, SX7, SX8, SU0, SY0, SY1, Nat.reduceAdd, Nat.reduceMul, Nat.reduceSub, Nat.reduceLeDiff, Nat.reduceEqDiff, Nat.reduceLT, Nat.reduceBEq, ↓reduceIte, Int.reduceLE, Int.reduceLT, Int.reduceToNat, Int.reduceNeg, reduceCtorEq, Int.reduceEq, SF0, SF1, SF2, DHb0, DHb1, DHa0, DCg0, DCe0, DCe1, DCe2, DDb0, DBc0, DBc1, DDe0, DAlh0, DAlv0, DBtc0, DBtc1]
      refine cutq (X1 ++ Y1) ⟨.rfl, hone (.inl (List.length_eq_zero_iff.1 (by omega)))⟩ ?_
      (refine wk_le ?_ ?_ ?_; (focus (simp [W8, leTm, leAV, AV.under, underL, ints, hcs, hren]; done)); (focus (simp [leL, OB.under, underL, AV.under, ints, hcs, hren]; done)); (focus (simp; done)))
  obtain ⟨hp1, hs1⟩ := hM1
  have hl5 := hp1.length_eq
  simp only [List.length_append] at hl5
  have hone : X2 = [] ∨ Y2 = [] → srt g (X2 ++ Y2) := by
    rintro (rfl | rfl)
    · exact s4
    · rw [List.append_nil]; exact s2
  have fin : ∀ (M2 : List Int) (s : AS), M2.Perm (X2 ++ Y2) → srt g M2 → s.L = [.vec 1 (ints (A ++ (M1 ++ (M2 ++ B)))), .cells cs] → Fin [0, 1] 2 (fun r L => r = .tup [] ∧ ∃ M, L = [.vec 1 (ints (A ++ (M ++ B))), .cells cs] ∧ M.Perm (X ++ Y) ∧ srt g M) s (.tup []) := fun M2 s hp2 hs2 hs => by
    obtain ⟨j1, j2⟩ := hal M1 M2 hp1 hp2 hs1 hs2
    refine fin_ks [0, 1] (.tup []) [.vec 1 (ints (A ++ ((M1 ++ M2) ++ B))), .cells cs] ⟨rfl, M1 ++ M2, rfl, j2, j1⟩ rfl (by rw [hs]; simp [keepL, nameK, OB.ren, ints, freeL_ren' _ _ hfr]) (by simp) (by simp) (by simp)
  refine sx_sound (bl := []) T_tt _ _ _ ?_
  simp (disch := omega) only [SX0, SX1, SX2, SX3, SX4, SX5, SX6, SX7, SX8, SU0, SY0, SY1, Nat.reduceAdd, Nat.reduceMul, Nat.reduceSub, Nat.reduceLeDiff, Nat.reduceEqDiff, Nat.reduceLT, Nat.reduceBEq, ↓reduceIte, Int.reduceLE, Int.reduceLT, Int.reduceToNat, Int.reduceNeg, reduceCtorEq, Int.reduceEq, SF0, SF1, SF2, DHb0, DHb1, DHa0, DCg0, DCe0, DCe1, DCe2, DDb0, DBc0, DBc1, DDe0, DAlh0, DAlv0, DBtc0, DBtc1]
  refine br_dec (fun h5 => ?_) (fun h5 => ?_)
  · simp (disch := omega) only [SX0, SX1, SX2, SX3, SX4, SX5, SX6, SX7, SX8, SU0, SY0, SY1, Nat.reduceAdd, Nat.reduceMul, Nat.reduceSub, Nat.reduceLeDiff, Nat.reduceEqDiff, Nat.reduceLT, Nat.reduceBEq, ↓reduceIte, Int.reduceLE, Int.reduceLT, Int.reduceToNat, Int.reduceNeg, reduceCtorEq, Int.reduceEq, SF0, SF1, SF2, DHb0, DHb1, DHa0, DCg0, DCe0, DCe1, DCe2, DDb0, DBc0, DBc1, DDe0, DAlh0, DAlv0, DBtc0, DBtc1]
    refine br_dec (fun h6 => ?_) (fun h6 => ?_)
    · have R2 := ih (A ++ M1) X2 Y2 B N mid e b (by omega) (by omega) (by omega) d2 d4 e2 s2 s4 (by simp; omega) (by omega) (by omega) hN hN2
      rw [List.append_assoc A M1] at R2
      simp (disch := omega) only [SX0, SX1, SX2, SX3, SX4, SX5, SX6, SX7, SX8, SU0, SY0, SY1, Nat.reduceAdd, Nat.reduceMul, Nat.reduceSub, Nat.reduceLeDiff, Nat.reduceEqDiff, Nat.reduceLT, Nat.reduceBEq, ↓reduceIte, Int.reduceLE, Int.reduceLT, Int.reduceToNat, Int.reduceNeg, reduceCtorEq, Int.reduceEq, SF0, SF1, SF2, DHb0, DHb1, DHa0, DCg0, DCe0, DCe1, DCe2, DDb0, DBc0, DBc1, DDe0, DAlh0, DAlv0, DBtc0, DBtc1]
      refine acall_own R2 [0, 1] [] (by simp [keepL, nameIn, OB.ren, freeL_ren' _ _ hfr, ints]) (by decide) (by decide) (by rfl) (by simp [AV.ren, nameIn, renL]) ?_
      rintro _ _ ⟨rfl, M2, rfl, hp2, hs2⟩
      simp (disch := omega) only [SX0, SX1, SX2, SX3, SX4, SX5, SX6, SX7, SX8, SU0, SY0, SY1, Nat.reduceAdd, Nat.reduceMul, Nat.reduceSub, Nat.reduceLeDiff, Nat.reduceEqDiff, Nat.reduceLT, Nat.reduceBEq, ↓reduceIte, Int.reduceLE, Int.reduceLT, Int.reduceToNat, Int.reduceNeg, reduceCtorEq, Int.reduceEq, SF0, SF1, SF2, DHb0, DHb1, DHa0, DCg0, DCe0, DCe1, DCe2, DDb0, DBc0, DBc1, DDe0, DAlh0, DAlv0, DBtc0, DBtc1, hren]
      exact fin M2 _ hp2 hs2 (by simp [ints])
    · simp (disch := omega) only [SX0, SX1, SX2, SX3, SX4, SX5, SX6, SX7, SX8, SU0, SY0, SY1, Nat.reduceAdd, Nat.reduceMul, Nat.reduceSub, Nat.reduceLeDiff, Nat.reduceEqDiff, Nat.reduceLT, Nat.reduceBEq, ↓reduceIte, Int.reduceLE, Int.reduceLT, Int.reduceToNat, Int.reduceNeg, reduceCtorEq, Int.reduceEq, SF0, SF1, SF2, DHb0, DHb1, DHa0, DCg0, DCe0, DCe1, DCe2, DDb0, DBc0, DBc1, DDe0, DAlh0, DAlv0, DBtc0, DBtc1]
      exact fin (X2 ++ Y2) _ .rfl (hone (.inr (List.length_eq_zero_iff.1 (by omega)))) (by simp [ints])
  · simp (disch := omega) only [SX0, SX1, SX2, SX3, SX4, SX5, SX6, SX7, SX8, SU0, SY0, SY1, Nat.reduceAdd, Nat.reduceMul, Nat.reduceSub, Nat.reduceLeDiff, Nat.reduceEqDiff, Nat.reduceLT, Nat.reduceBEq, ↓reduceIte, Int.reduceLE, Int.reduceLT, Int.reduceToNat, Int.reduceNeg, reduceCtorEq, Int.reduceEq, SF0, SF1, SF2, DHb0, DHb1, DHa0, DCg0, DCe0, DCe1, DCe2, DDb0, DBc0, DBc1, DDe0, DAlh0, DAlv0, DBtc0, DBtc1]
    exact fin (X2 ++ Y2) _ .rfl (hone (.inl (List.length_eq_zero_iff.1 (by omega)))) (by simp [ints])
end Go.Pc
