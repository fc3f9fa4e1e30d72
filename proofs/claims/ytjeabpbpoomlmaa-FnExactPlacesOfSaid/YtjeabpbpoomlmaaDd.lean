/- Works and plans that are drawn. -/
import Derived.Test.YtjeabpbpoomlmaaDc
set_option linter.unusedSimpArgs false
set_option linter.unusedVariables false
namespace Go.Pc
open Go Go.Proofs

def Work.Small (k : Work) : Prop := (-1000 ≤ k.W ∧ k.W ≤ 1000) ∧ (-1000 ≤ k.H ∧ k.H ≤ 1000) ∧ k.Ps.length ≤ 24 ∧ ∀ q ∈ k.Ps, q.Small

/-- What a drawn work and a drawn plan are. -/
def Drawn (xs : List Int) (p m : Int) (r : AV) (L : List OB) : Prop :=
  ∃ (k : Work) (q : Plan) (p' : Int), r = .tup [.agg k.cs, .agg q.cs] ∧ L = [rdr xs p'] ∧ k.Small ∧ q.Small ∧ (p ≤ p' ∧ p' ≤ p + m) ∧ -1 ≤ k.W ∧ k.W ≤ m

theorem picks_4 : picks 4 = 310 := by decide
theorem picks_le : ∀ d, d ≤ 4 → picks d ≤ 310
  | 0, _ | 1, _ | 2, _ | 3, _ | 4, _ => by decide
  | d + 5, h => by omega

/-- What a drawn work with a valid plan is. -/
def DrawnV (xs : List Int) (p : Int) (r : AV) (L : List OB) : Prop :=
  ∃ (k : Work) (q : Plan) (p' : Int), r = .tup [.agg k.cs, .agg q.cs] ∧ L = [rdr xs p'] ∧ k.Small ∧ q.Small ∧ (p ≤ p' ∧ p' ≤ p + 400) ∧ -1 ≤ k.W ∧ k.W ≤ 400 ∧ q.valid k ∧ q.nodes ≤ 31

theorem e_workPlan : Enters Try.prog 136 := enters_of Try.func136 (by kernel_rfl) (by kernel_rfl)
set_option maxHeartbeats 4000000 in
theorem workPlan_v (xs : List Int) (p : Int) (hx : ∀ x ∈ xs, 0 ≤ x ∧ x < 256) (hl : xs.length ≤ 2000) (hp : 0 ≤ p ∧ p ≤ 900000000) : ACalls Try.prog 136 [.ptr 0 0] [rdr xs p] [0] (DrawnV xs p) := by
  refine acalls_tm T_tt Try.func136 rfl e_workPlan 23 rfl (W8 _ .any .any .any .any .any .any .any (W8 .any .any .any .any .any .any .any .any (W8 .any .any .any .any .any .any .any .any []))) rfl (rv := [.cell 2 34, .cell 3 38]) rfl (sx_sound (bl := []) T_tt _ _ _ ?_)
  simp (disch := omega) only [SX0, SX1, SX2, SX3, SX4, SX5, SX6, SX7, SX8, SU0, SY0, SY1, Nat.reduceAdd, Nat.reduceMul, Nat.reduceSub, Nat.reduceLeDiff, Nat.reduceEqDiff, Nat.reduceLT, Nat.reduceBEq, ↓reduceIte, Int.reduceLE, Int.reduceLT, Int.reduceToNat, Int.reduceNeg, reduceCtorEq, Int.reduceEq, SF0, SF1, SF2, DDc0, DCg0, DCe0, DCa0, DCa1, DDb0, DBc0, DBa0]
  refine one_call hx hl (by omega) (l := [12, 20, 8, 30, 1, 5]) (by simp) rfl rfl fun W hW => ?_
  simp (disch := omega) only [SX0, SX1, SX2, SX3, SX4, SX5, SX6, SX7, SX8, SU0, SY0, SY1, Nat.reduceAdd, Nat.reduceMul, Nat.reduceSub, Nat.reduceLeDiff, Nat.reduceEqDiff, Nat.reduceLT, Nat.reduceBEq, ↓reduceIte, Int.reduceLE, Int.reduceLT, Int.reduceToNat, Int.reduceNeg, reduceCtorEq, Int.reduceEq, SF0, SF1, SF2, DDc0, DCg0, DCe0, DCa0, DCa1, DDb0, DBc0, DBa0]
  refine one_call hx hl (by omega) (l := [10, 16, 6, 20, 1, 9]) (by simp) rfl rfl fun H hH => ?_
  simp (disch := omega) only [SX0, SX1, SX2, SX3, SX4, SX5, SX6, SX7, SX8, SU0, SY0, SY1, Nat.reduceAdd, Nat.reduceMul, Nat.reduceSub, Nat.reduceLeDiff, Nat.reduceEqDiff, Nat.reduceLT, Nat.reduceBEq, ↓reduceIte, Int.reduceLE, Int.reduceLT, Int.reduceToNat, Int.reduceNeg, reduceCtorEq, Int.reduceEq, SF0, SF1, SF2, DDc0, DCg0, DCe0, DCa0, DCa1, DDb0, DBc0, DBa0]
  have hW' : 1 ≤ W ∧ W ≤ 30 := by simp at hW; omega
  have hH' : 1 ≤ H ∧ H ≤ 20 := by simp at hH; omega
  refine awp_wk (wk_nilc 3 2 4 _ (by decide) rfl rfl) ?_
  simp (disch := omega) only [SX0, SX1, SX2, SX3, SX4, SX5, SX6, SX7, SX8, SU0, SY0, SY1, Nat.reduceAdd, Nat.reduceMul, Nat.reduceSub, Nat.reduceLeDiff, Nat.reduceEqDiff, Nat.reduceLT, Nat.reduceBEq, ↓reduceIte, Int.reduceLE, Int.reduceLT, Int.reduceToNat, Int.reduceNeg, reduceCtorEq, Int.reduceEq, SF0, SF1, SF2, DDc0, DCg0, DCe0, DCa0, DCa1, DDb0, DBc0, DBa0]
  refine awp_float (bl := []) T_tt mixed [0, 1, 2, 3] [0, 1, 2, 3, 4, 5, 6] [(7, [(5, .f 18), (6, .f 19)]), (8, [(0, .f 13), (1, .f 14), (2, .f 15), (3, .f 16), (4, .f 17)]), (10, [(9, .a 5 38)])] [] (by kernel_rfl) (by kernel_rfl) ?_
  simp (disch := omega) only [SX0, SX1, SX2, SX3, SX4, SX5, SX6, SX7, SX8, SU0, SY0, SY1, Nat.reduceAdd, Nat.reduceMul, Nat.reduceSub, Nat.reduceLeDiff, Nat.reduceEqDiff, Nat.reduceLT, Nat.reduceBEq, ↓reduceIte, Int.reduceLE, Int.reduceLT, Int.reduceToNat, Int.reduceNeg, reduceCtorEq, Int.reduceEq, SF0, SF1, SF2, DDc0, DCg0, DCe0, DCa0, DCa1, DDb0, DBc0, DBa0]
  refine one_call hx hl (by omega) (l := [3, 2, 4, 1, 0]) (by simp) rfl rfl fun d hd => ?_
  simp (disch := omega) only [SX0, SX1, SX2, SX3, SX4, SX5, SX6, SX7, SX8, SU0, SY0, SY1, Nat.reduceAdd, Nat.reduceMul, Nat.reduceSub, Nat.reduceLeDiff, Nat.reduceEqDiff, Nat.reduceLT, Nat.reduceBEq, ↓reduceIte, Int.reduceLE, Int.reduceLT, Int.reduceToNat, Int.reduceNeg, reduceCtorEq, Int.reduceEq, SF0, SF1, SF2, DDc0, DCg0, DCe0, DCa0, DCa1, DDb0, DBc0, DBa0]
  have hd' : 0 ≤ d ∧ d ≤ 4 := by simp at hd; omega
  obtain ⟨n, rfl⟩ : ∃ n : Nat, d = n := ⟨d.toNat, by omega⟩
  have hpk := picks_le n (by omega)
  have g1 := grow_c xs hx hl W H n (p + 1 + 1 + 1) W H [] (by omega) (by omega) (by omega) (by simp) (by simp) (by omega)
  refine acall_own g1 [0, 3, 4] [4] (by simp only [SX0, SX1, SX2, SX3, SX4, SX5, SX6, SX7, SX8, SU0, SY0, SY1, Nat.reduceAdd, Nat.reduceMul, Nat.reduceSub, Nat.reduceLeDiff, Nat.reduceEqDiff, Nat.reduceLT, Nat.reduceBEq, ↓reduceIte, Int.reduceLE, Int.reduceLT, Int.reduceToNat, Int.reduceNeg, reduceCtorEq, Int.reduceEq, SF0, SF1, SF2, DDc0, DCg0, DCe0, DCa0, DCa1, DDb0, DBc0, DBa0, SX0]) (by decide) (by decide) (by rfl) (by simp only [SX0, SX1, SX2, SX3, SX4, SX5, SX6, SX7, SX8, SU0, SY0, SY1, Nat.reduceAdd, Nat.reduceMul, Nat.reduceSub, Nat.reduceLeDiff, Nat.reduceEqDiff, Nat.reduceLT, Nat.reduceBEq, ↓reduceIte, Int.reduceLE, Int.reduceLT, Int.reduceToNat, Int.reduceNeg, reduceCtorEq, Int.reduceEq, SF0, SF1, SF2, DDc0, DCg0, DCe0, DCa0, DCa1, DDb0, DBc0, DBa0, SX0]) ?_
  rintro _ _ ⟨q, p', Ps, rfl, rfl, hq, hp', hPs, hPq, w1, n1, ⟨t, ht, o1⟩, f1⟩
  have hpw := Nat.pow_le_pow_right (n := 2) (by omega) (show n + 1 ≤ 5 by omega)
  have f2 := f1 [] W H
  rw [List.append_nil] at f2
  rw [List.nil_append] at ht
  have hv : q.valid ⟨W, H, Ps⟩ := ⟨⟨by simp only []; omega, by simp only []; omega, by subst ht; exact o1 (by omega) (by omega), hPs⟩, ⟨w1, by omega⟩, f2⟩
  simp (disch := omega) only [SX0, SX1, SX2, SX3, SX4, SX5, SX6, SX7, SX8, SU0, SY0, SY1, Nat.reduceAdd, Nat.reduceMul, Nat.reduceSub, Nat.reduceLeDiff, Nat.reduceEqDiff, Nat.reduceLT, Nat.reduceBEq, ↓reduceIte, Int.reduceLE, Int.reduceLT, Int.reduceToNat, Int.reduceNeg, reduceCtorEq, Int.reduceEq, SF0, SF1, SF2, DDc0, DCg0, DCe0, DCa0, DCa1, DDb0, DBc0, DBa0]
  refine awp_float (bl := []) T_tt mixed [0, 1, 2, 3, 4, 5] [0, 1] [(2, [(0, .f 22)]), (3, [(1, .f 23)])] [] (by kernel_rfl) (by kernel_rfl) ?_
  simp (disch := omega) only [SX0, SX1, SX2, SX3, SX4, SX5, SX6, SX7, SX8, SU0, SY0, SY1, Nat.reduceAdd, Nat.reduceMul, Nat.reduceSub, Nat.reduceLeDiff, Nat.reduceEqDiff, Nat.reduceLT, Nat.reduceBEq, ↓reduceIte, Int.reduceLE, Int.reduceLT, Int.reduceToNat, Int.reduceNeg, reduceCtorEq, Int.reduceEq, SF0, SF1, SF2, DDc0, DCg0, DCe0, DCa0, DCa1, DDb0, DBc0, DBa0]
  refine fin_frz (r := 4) (k := 4) rfl (by simp) ?_
  simp only [AV.frz, frzL, if_true, Nat.zero_add, true_and, List.length_map, Nat.le_refl, List.drop_zero, freeL_frz _ _ _ q.free]
  rw [List.take_of_length_le (by simp)]
  exact fin_zero (.tup [.agg (Work.mk W H Ps).cs, .agg q.cs]) (rdr xs p') ⟨⟨W, H, Ps⟩, q, p', rfl, rfl, ⟨by simp only []; omega, by simp only []; omega, hPs, hPq⟩, hq, ⟨by omega, by omega⟩, by simp only []; omega, by simp only []; omega, hv, by omega⟩ (by simp [AV.ren, renL, Work.cs, Plan.rend]) (by rw [rdr_ren]; simp [AS.frz, OB.frz, AV.frz, rdr]) (by simp) (by simp)

theorem workPlan_c (xs : List Int) (p : Int) (hx : ∀ x ∈ xs, 0 ≤ x ∧ x < 256) (hl : xs.length ≤ 2000) (hp : 0 ≤ p ∧ p ≤ 900000000) : ACalls Try.prog 136 [.ptr 0 0] [rdr xs p] [0] (Drawn xs p 400) :=
  (workPlan_v xs p hx hl hp).mono fun r L ⟨k, q, p', h1, h2, h3, h4, h5, h6, h7, _⟩ => ⟨k, q, p', h1, h2, h3, h4, h5, h6, h7⟩

theorem Plan.small_iff (q : Plan) : q.Small ↔ (-1000 ≤ q.op ∧ q.op ≤ 1000) ∧ (-1000 ≤ q.at_ ∧ q.at_ ≤ 1000) ∧ (-1000 ≤ q.pa ∧ q.pa ≤ 1000) ∧ q.ks.length ≤ 2 ∧ ∀ x ∈ q.ks, x.Small :=
  ⟨fun h => by cases h with | mk h1 h2 h3 h4 h5 => exact ⟨h1, h2, h3, h4, h5⟩, fun h => by cases q; exact .mk h.1 h.2.1 h.2.2.1 h.2.2.2.1 h.2.2.2.2⟩

theorem e_anyPlan : Enters Try.prog 112 := enters_of Try.func112 (by kernel_rfl) (by kernel_rfl)
set_option maxHeartbeats 4000000 in
theorem anyPlan_c (xs : List Int) (p : Int) (hx : ∀ x ∈ xs, 0 ≤ x ∧ x < 256) (hl : xs.length ≤ 2000) (hp : 0 ≤ p ∧ p ≤ 800000000) : ACalls Try.prog 112 [.ptr 0 0] [rdr xs p] [0] (Drawn xs p 500) := by
  refine acalls_tm T_tt Try.func112 rfl e_anyPlan 57 rfl (W8 _ .any .any .any .any .any .any .any (W8 .any .any .any .any .any .any .any .any (W8 .any .any .any .any .any .any .any .any (W8 .any .any .any .any .any .any .any .any (W8 .any .any .any .any .any .any .any .any (W8 .any .any .any .any .any .any .any .any (W8 .any .any .any .any .any .any .any .any [.any, .any]))))))) rfl (rv := [.cell 2 34, .cell 3 38]) rfl ?_
  refine awp_step (bl := []) T_tt ?_
  simp (disch := omega) only [SX0, SX1, SX2, SX3, SX4, SX5, SX6, SX7, SX8, SU0, SY0, SY1, Nat.reduceAdd, Nat.reduceMul, Nat.reduceSub, Nat.reduceLeDiff, Nat.reduceEqDiff, Nat.reduceLT, Nat.reduceBEq, ↓reduceIte, Int.reduceLE, Int.reduceLT, Int.reduceToNat, Int.reduceNeg, reduceCtorEq, Int.reduceEq, SF0, SF1, SF2, DDc0, DCg0, DCe0, DCa0, DCa1, DDb0, DBc0, DBa0]
  refine awp_step (bl := []) T_tt ?_
  simp (disch := omega) only [SX0, SX1, SX2, SX3, SX4, SX5, SX6, SX7, SX8, SU0, SY0, SY1, Nat.reduceAdd, Nat.reduceMul, Nat.reduceSub, Nat.reduceLeDiff, Nat.reduceEqDiff, Nat.reduceLT, Nat.reduceBEq, ↓reduceIte, Int.reduceLE, Int.reduceLT, Int.reduceToNat, Int.reduceNeg, reduceCtorEq, Int.reduceEq, SF0, SF1, SF2, DDc0, DCg0, DCe0, DCa0, DCa1, DDb0, DBc0, DBa0]
  refine acall_own (workPlan_c xs p hx hl (by omega)) [0] [] (by simp only [SX0, SX1, SX2, SX3, SX4, SX5, SX6, SX7, SX8, SU0, SY0, SY1, Nat.reduceAdd, Nat.reduceMul, Nat.reduceSub, Nat.reduceLeDiff, Nat.reduceEqDiff, Nat.reduceLT, Nat.reduceBEq, ↓reduceIte, Int.reduceLE, Int.reduceLT, Int.reduceToNat, Int.reduceNeg, reduceCtorEq, Int.reduceEq, SF0, SF1, SF2, DDc0, DCg0, DCe0, DCa0, DCa1, DDb0, DBc0, DBa0, SX0]) (by decide) (by decide) (by rfl) (by simp only [SX0, SX1, SX2, SX3, SX4, SX5, SX6, SX7, SX8, SU0, SY0, SY1, Nat.reduceAdd, Nat.reduceMul, Nat.reduceSub, Nat.reduceLeDiff, Nat.reduceEqDiff, Nat.reduceLT, Nat.reduceBEq, ↓reduceIte, Int.reduceLE, Int.reduceLT, Int.reduceToNat, Int.reduceNeg, reduceCtorEq, Int.reduceEq, SF0, SF1, SF2, DDc0, DCg0, DCe0, DCa0, DCa1, DDb0, DBc0, DBa0, SX0]) ?_
  rintro _ _ ⟨k, q, p1, rfl, rfl, hk, hq, hp1, hkw⟩
  simp (disch := omega) only [SX0, SX1, SX2, SX3, SX4, SX5, SX6, SX7, SX8, SU0, SY0, SY1, Nat.reduceAdd, Nat.reduceMul, Nat.reduceSub, Nat.reduceLeDiff, Nat.reduceEqDiff, Nat.reduceLT, Nat.reduceBEq, ↓reduceIte, Int.reduceLE, Int.reduceLT, Int.reduceToNat, Int.reduceNeg, reduceCtorEq, Int.reduceEq, SF0, SF1, SF2, DDc0, DCg0, DCe0, DCa0, DCa1, DDb0, DBc0, DBa0]
  have hqs := (Plan.small_iff q).1 hq
  obtain ⟨o1, o2, o3, o4, o5⟩ := (Plan.small_iff q).1 hq
  obtain ⟨kw, kh, _⟩ := id hk
  refine awp_cut (bl := []) T_tt (G := Work × Plan × Int) (fun g => g.1.Small ∧ g.2.1.Small ∧ (p ≤ g.2.2 ∧ g.2.2 ≤ p + 500) ∧ -1 ≤ g.1.W ∧ g.1.W ≤ 500) 6 52 (fun _ => []) (fun g => [rdr xs g.2.2, .cells [.val (.int .i64 0), .val (.int .i64 0), .val (.slice none 0 0)], .cells [.val (.int .i64 0), .val (.int .i64 0), .val (.int .i64 0), .val (.bool false), .val (.slice none 0 0)], .cells g.1.cs, .cells g.2.1.cs]) ?_ fun g hg => ?_
  · simp (disch := omega) only [SX0, SX1, SX2, SX3, SX4, SX5, SX6, SX7, SX8, SU0, SY0, SY1, Nat.reduceAdd, Nat.reduceMul, Nat.reduceSub, Nat.reduceLeDiff, Nat.reduceEqDiff, Nat.reduceLT, Nat.reduceBEq, ↓reduceIte, Int.reduceLE, Int.reduceLT, Int.reduceToNat, Int.reduceNeg, reduceCtorEq, Int.reduceEq, SF0, SF1, SF2, DDc0, DCg0, DCe0, DCa0, DCa1, DDb0, DBc0, DBa0]
    refine pick_call hx hl (by omega) rfl fun c hc1 hc2 hc3 => ?_
    simp (disch := omega) only [SX0, SX1, SX2, SX3, SX4, SX5, SX6, SX7, SX8, SU0, SY0, SY1, Nat.reduceAdd, Nat.reduceMul, Nat.reduceSub, Nat.reduceLeDiff, Nat.reduceEqDiff, Nat.reduceLT, Nat.reduceBEq, ↓reduceIte, Int.reduceLE, Int.reduceLT, Int.reduceToNat, Int.reduceNeg, reduceCtorEq, Int.reduceEq, SF0, SF1, SF2, DDc0, DCg0, DCe0, DCa0, DCa1, DDb0, DBc0, DBa0]
    refine br_dec (fun h0 => ?_) (fun h0 => ?_)
    · simp (disch := omega) only [SX0, SX1, SX2, SX3, SX4, SX5, SX6, SX7, SX8, SU0, SY0, SY1, Nat.reduceAdd, Nat.reduceMul, Nat.reduceSub, Nat.reduceLeDiff, Nat.reduceEqDiff, Nat.reduceLT, Nat.reduceBEq, ↓reduceIte, Int.reduceLE, Int.reduceLT, Int.reduceToNat, Int.reduceNeg, reduceCtorEq, Int.reduceEq, SF0, SF1, SF2, DDc0, DCg0, DCe0, DCa0, DCa1, DDb0, DBc0, DBa0]
      refine one_call hx hl (by omega) (l := [0, 201, k.W + 1]) (by simp) rfl rfl fun v hv => ?_
      have hv' : -1 ≤ v ∧ v ≤ 500 := by simp at hv; omega
      simp (disch := omega) only [SX0, SX1, SX2, SX3, SX4, SX5, SX6, SX7, SX8, SU0, SY0, SY1, Nat.reduceAdd, Nat.reduceMul, Nat.reduceSub, Nat.reduceLeDiff, Nat.reduceEqDiff, Nat.reduceLT, Nat.reduceBEq, ↓reduceIte, Int.reduceLE, Int.reduceLT, Int.reduceToNat, Int.reduceNeg, reduceCtorEq, Int.reduceEq, SF0, SF1, SF2, DDc0, DCg0, DCe0, DCa0, DCa1, DDb0, DBc0, DBa0, Work.cs]
      refine ⟨(⟨v, k.H, k.Ps⟩, q, p1 + 1 + 1), ⟨⟨⟨by show -1000 ≤ v; omega, by show v ≤ 1000; omega⟩, hk.2⟩, hq, by simp only []; omega, by simp only []; omega⟩, ?_⟩
      (refine wk_le ?_ ?_ ?_; (focus (simp [W8, leTm, leAV, AV.under, underL, rdr, Work.under, Plan.under, Work.cs, Plan.cs_eq, Plan.op, Plan.at_, Plan.pa, Plan.tu, Plan.ks]; done)); (focus (simp [leL, OB.under, underL, AV.under, rdr, Work.under, Plan.under, Work.cs, Plan.cs_eq, Plan.op, Plan.at_, Plan.pa, Plan.tu, Plan.ks]; done)); (focus (simp; done)))
    simp (disch := omega) only [SX0, SX1, SX2, SX3, SX4, SX5, SX6, SX7, SX8, SU0, SY0, SY1, Nat.reduceAdd, Nat.reduceMul, Nat.reduceSub, Nat.reduceLeDiff, Nat.reduceEqDiff, Nat.reduceLT, Nat.reduceBEq, ↓reduceIte, Int.reduceLE, Int.reduceLT, Int.reduceToNat, Int.reduceNeg, reduceCtorEq, Int.reduceEq, SF0, SF1, SF2, DDc0, DCg0, DCe0, DCa0, DCa1, DDb0, DBc0, DBa0]
    refine br_dec (fun h1 => ?_) (fun h1 => ?_)
    · simp (disch := omega) only [SX0, SX1, SX2, SX3, SX4, SX5, SX6, SX7, SX8, SU0, SY0, SY1, Nat.reduceAdd, Nat.reduceMul, Nat.reduceSub, Nat.reduceLeDiff, Nat.reduceEqDiff, Nat.reduceLT, Nat.reduceBEq, ↓reduceIte, Int.reduceLE, Int.reduceLT, Int.reduceToNat, Int.reduceNeg, reduceCtorEq, Int.reduceEq, SF0, SF1, SF2, DDc0, DCg0, DCe0, DCa0, DCa1, DDb0, DBc0, DBa0]
      refine one_call hx hl (by omega) (l := [0, 200, -1]) (by simp) rfl rfl fun v hv => ?_
      have hv' : -1 ≤ v ∧ v ≤ 500 := by simp at hv; omega
      simp (disch := omega) only [SX0, SX1, SX2, SX3, SX4, SX5, SX6, SX7, SX8, SU0, SY0, SY1, Nat.reduceAdd, Nat.reduceMul, Nat.reduceSub, Nat.reduceLeDiff, Nat.reduceEqDiff, Nat.reduceLT, Nat.reduceBEq, ↓reduceIte, Int.reduceLE, Int.reduceLT, Int.reduceToNat, Int.reduceNeg, reduceCtorEq, Int.reduceEq, SF0, SF1, SF2, DDc0, DCg0, DCe0, DCa0, DCa1, DDb0, DBc0, DBa0, Plan.cs_eq]
      refine ⟨(k, Plan.mk q.op v q.pa q.tu q.ks, p1 + 1 + 1), ⟨hk, Plan.Small.mk (by omega) (by omega) (by omega) o4 o5, by simp only []; omega, by simp only []; omega⟩, ?_⟩
      (refine wk_le ?_ ?_ ?_; (focus (simp [W8, leTm, leAV, AV.under, underL, rdr, Work.under, Plan.under, Work.cs, Plan.cs_eq, Plan.op, Plan.at_, Plan.pa, Plan.tu, Plan.ks]; done)); (focus (simp [leL, OB.under, underL, AV.under, rdr, Work.under, Plan.under, Work.cs, Plan.cs_eq, Plan.op, Plan.at_, Plan.pa, Plan.tu, Plan.ks]; done)); (focus (simp; done)))
    simp (disch := omega) only [SX0, SX1, SX2, SX3, SX4, SX5, SX6, SX7, SX8, SU0, SY0, SY1, Nat.reduceAdd, Nat.reduceMul, Nat.reduceSub, Nat.reduceLeDiff, Nat.reduceEqDiff, Nat.reduceLT, Nat.reduceBEq, ↓reduceIte, Int.reduceLE, Int.reduceLT, Int.reduceToNat, Int.reduceNeg, reduceCtorEq, Int.reduceEq, SF0, SF1, SF2, DDc0, DCg0, DCe0, DCa0, DCa1, DDb0, DBc0, DBa0]
    refine br_dec (fun h2 => ?_) (fun h2 => ?_)
    · simp (disch := omega) only [SX0, SX1, SX2, SX3, SX4, SX5, SX6, SX7, SX8, SU0, SY0, SY1, Nat.reduceAdd, Nat.reduceMul, Nat.reduceSub, Nat.reduceLeDiff, Nat.reduceEqDiff, Nat.reduceLT, Nat.reduceBEq, ↓reduceIte, Int.reduceLE, Int.reduceLT, Int.reduceToNat, Int.reduceNeg, reduceCtorEq, Int.reduceEq, SF0, SF1, SF2, DDc0, DCg0, DCe0, DCa0, DCa1, DDb0, DBc0, DBa0]
      refine one_call hx hl (by omega) (l := [4, -1, 1, 0]) (by simp) rfl rfl fun v hv => ?_
      have hv' : -1 ≤ v ∧ v ≤ 500 := by simp at hv; omega
      simp (disch := omega) only [SX0, SX1, SX2, SX3, SX4, SX5, SX6, SX7, SX8, SU0, SY0, SY1, Nat.reduceAdd, Nat.reduceMul, Nat.reduceSub, Nat.reduceLeDiff, Nat.reduceEqDiff, Nat.reduceLT, Nat.reduceBEq, ↓reduceIte, Int.reduceLE, Int.reduceLT, Int.reduceToNat, Int.reduceNeg, reduceCtorEq, Int.reduceEq, SF0, SF1, SF2, DDc0, DCg0, DCe0, DCa0, DCa1, DDb0, DBc0, DBa0, Plan.cs_eq]
      refine ⟨(k, Plan.mk v q.at_ q.pa q.tu q.ks, p1 + 1 + 1), ⟨hk, Plan.Small.mk (by omega) (by omega) (by omega) o4 o5, by simp only []; omega, by simp only []; omega⟩, ?_⟩
      (refine wk_le ?_ ?_ ?_; (focus (simp [W8, leTm, leAV, AV.under, underL, rdr, Work.under, Plan.under, Work.cs, Plan.cs_eq, Plan.op, Plan.at_, Plan.pa, Plan.tu, Plan.ks]; done)); (focus (simp [leL, OB.under, underL, AV.under, rdr, Work.under, Plan.under, Work.cs, Plan.cs_eq, Plan.op, Plan.at_, Plan.pa, Plan.tu, Plan.ks]; done)); (focus (simp; done)))
    simp (disch := omega) only [SX0, SX1, SX2, SX3, SX4, SX5, SX6, SX7, SX8, SU0, SY0, SY1, Nat.reduceAdd, Nat.reduceMul, Nat.reduceSub, Nat.reduceLeDiff, Nat.reduceEqDiff, Nat.reduceLT, Nat.reduceBEq, ↓reduceIte, Int.reduceLE, Int.reduceLT, Int.reduceToNat, Int.reduceNeg, reduceCtorEq, Int.reduceEq, SF0, SF1, SF2, DDc0, DCg0, DCe0, DCa0, DCa1, DDb0, DBc0, DBa0]
    refine br_dec (fun h3 => ?_) (fun h3 => ?_)
    · simp (disch := omega) only [SX0, SX1, SX2, SX3, SX4, SX5, SX6, SX7, SX8, SU0, SY0, SY1, Nat.reduceAdd, Nat.reduceMul, Nat.reduceSub, Nat.reduceLeDiff, Nat.reduceEqDiff, Nat.reduceLT, Nat.reduceBEq, ↓reduceIte, Int.reduceLE, Int.reduceLT, Int.reduceToNat, Int.reduceNeg, reduceCtorEq, Int.reduceEq, SF0, SF1, SF2, DDc0, DCg0, DCe0, DCa0, DCa1, DDb0, DBc0, DBa0]
      refine br_dec (fun h4 => ?_) (fun h4 => ?_)
      · simp (disch := omega) only [SX0, SX1, SX2, SX3, SX4, SX5, SX6, SX7, SX8, SU0, SY0, SY1, Nat.reduceAdd, Nat.reduceMul, Nat.reduceSub, Nat.reduceLeDiff, Nat.reduceEqDiff, Nat.reduceLT, Nat.reduceBEq, ↓reduceIte, Int.reduceLE, Int.reduceLT, Int.reduceToNat, Int.reduceNeg, reduceCtorEq, Int.reduceEq, SF0, SF1, SF2, DDc0, DCg0, DCe0, DCa0, DCa1, DDb0, DBc0, DBa0]
        refine req ⟨by omega, fun c hc => ?_⟩ ?_
        · cases hq0 : q.ks[0]? with
          | none => simp [hq0] at hc
          | some x => simp [hq0] at hc; subst hc; exact x.len
        simp (disch := omega) only [SX0, SX1, SX2, SX3, SX4, SX5, SX6, SX7, SX8, SU0, SY0, SY1, Nat.reduceAdd, Nat.reduceMul, Nat.reduceSub, Nat.reduceLeDiff, Nat.reduceEqDiff, Nat.reduceLT, Nat.reduceBEq, ↓reduceIte, Int.reduceLE, Int.reduceLT, Int.reduceToNat, Int.reduceNeg, reduceCtorEq, Int.reduceEq, SF0, SF1, SF2, DDc0, DCg0, DCe0, DCa0, DCa1, DDb0, DBc0, DBa0, Plan.cs_eq]
        refine ⟨(k, Plan.mk q.op q.at_ q.pa q.tu (q.ks.take 1), p1 + 1), ⟨hk, (Plan.small_iff _).2 ⟨o1, o2, o3, by simp only [Plan.ks]; rw [List.length_take]; omega, fun x hx => o5 x (List.mem_of_mem_take hx)⟩, by simp only []; omega, by simp only []; omega⟩, ?_⟩
        (refine wk_le ?_ ?_ ?_; (focus (simp [W8, leTm, leAV, AV.under, underL, rdr, Work.under, Plan.under, Work.cs, Plan.cs_eq, Plan.op, Plan.at_, Plan.pa, Plan.tu, Plan.ks, List.map_take]; done)); (focus (simp [leL, OB.under, underL, AV.under, rdr, Work.under, Plan.under, Work.cs, Plan.cs_eq, Plan.op, Plan.at_, Plan.pa, Plan.tu, Plan.ks, List.map_take]; done)); (focus (simp; done)))
      · simp (disch := omega) only [SX0, SX1, SX2, SX3, SX4, SX5, SX6, SX7, SX8, SU0, SY0, SY1, Nat.reduceAdd, Nat.reduceMul, Nat.reduceSub, Nat.reduceLeDiff, Nat.reduceEqDiff, Nat.reduceLT, Nat.reduceBEq, ↓reduceIte, Int.reduceLE, Int.reduceLT, Int.reduceToNat, Int.reduceNeg, reduceCtorEq, Int.reduceEq, SF0, SF1, SF2, DDc0, DCg0, DCe0, DCa0, DCa1, DDb0, DBc0, DBa0]
        refine ⟨(k, q, p1 + 1), ⟨hk, hq, by simp only []; omega, by simp only []; omega⟩, ?_⟩
        (refine wk_le ?_ ?_ ?_; (focus (simp [W8, leTm, leAV, AV.under, underL, rdr, Work.under, Plan.under]; done)); (focus (simp [leL, OB.under, underL, AV.under, rdr, Work.under, Plan.under]; done)); (focus (simp; done)))
    simp (disch := omega) only [SX0, SX1, SX2, SX3, SX4, SX5, SX6, SX7, SX8, SU0, SY0, SY1, Nat.reduceAdd, Nat.reduceMul, Nat.reduceSub, Nat.reduceLeDiff, Nat.reduceEqDiff, Nat.reduceLT, Nat.reduceBEq, ↓reduceIte, Int.reduceLE, Int.reduceLT, Int.reduceToNat, Int.reduceNeg, reduceCtorEq, Int.reduceEq, SF0, SF1, SF2, DDc0, DCg0, DCe0, DCa0, DCa1, DDb0, DBc0, DBa0]
    refine br_dec (fun h4 => ?_) (fun h4 => ?_)
    · simp (disch := omega) only [SX0, SX1, SX2, SX3, SX4, SX5, SX6, SX7, SX8, SU0, SY0, SY1, Nat.reduceAdd, Nat.reduceMul, Nat.reduceSub, Nat.reduceLeDiff, Nat.reduceEqDiff, Nat.reduceLT, Nat.reduceBEq, ↓reduceIte, Int.reduceLE, Int.reduceLT, Int.reduceToNat, Int.reduceNeg, reduceCtorEq, Int.reduceEq, SF0, SF1, SF2, DDc0, DCg0, DCe0, DCa0, DCa1, DDb0, DBc0, DBa0]
      refine one_call hx hl (by omega) (l := [1, 30, -1]) (by simp) rfl rfl fun v hv => ?_
      have hv' : -1 ≤ v ∧ v ≤ 500 := by simp at hv; omega
      simp (disch := omega) only [SX0, SX1, SX2, SX3, SX4, SX5, SX6, SX7, SX8, SU0, SY0, SY1, Nat.reduceAdd, Nat.reduceMul, Nat.reduceSub, Nat.reduceLeDiff, Nat.reduceEqDiff, Nat.reduceLT, Nat.reduceBEq, ↓reduceIte, Int.reduceLE, Int.reduceLT, Int.reduceToNat, Int.reduceNeg, reduceCtorEq, Int.reduceEq, SF0, SF1, SF2, DDc0, DCg0, DCe0, DCa0, DCa1, DDb0, DBc0, DBa0, Plan.cs_eq]
      refine ⟨(k, Plan.mk q.op q.at_ v q.tu q.ks, p1 + 1 + 1), ⟨hk, Plan.Small.mk (by omega) (by omega) (by omega) o4 o5, by simp only []; omega, by simp only []; omega⟩, ?_⟩
      (refine wk_le ?_ ?_ ?_; (focus (simp [W8, leTm, leAV, AV.under, underL, rdr, Work.under, Plan.under, Work.cs, Plan.cs_eq, Plan.op, Plan.at_, Plan.pa, Plan.tu, Plan.ks]; done)); (focus (simp [leL, OB.under, underL, AV.under, rdr, Work.under, Plan.under, Work.cs, Plan.cs_eq, Plan.op, Plan.at_, Plan.pa, Plan.tu, Plan.ks]; done)); (focus (simp; done)))
    simp (disch := omega) only [SX0, SX1, SX2, SX3, SX4, SX5, SX6, SX7, SX8, SU0, SY0, SY1, Nat.reduceAdd, Nat.reduceMul, Nat.reduceSub, Nat.reduceLeDiff, Nat.reduceEqDiff, Nat.reduceLT, Nat.reduceBEq, ↓reduceIte, Int.reduceLE, Int.reduceLT, Int.reduceToNat, Int.reduceNeg, reduceCtorEq, Int.reduceEq, SF0, SF1, SF2, DDc0, DCg0, DCe0, DCa0, DCa1, DDb0, DBc0, DBa0]
    refine br_dec (fun h5 => ?_) (fun h5 => ?_)
    · simp (disch := omega) only [SX0, SX1, SX2, SX3, SX4, SX5, SX6, SX7, SX8, SU0, SY0, SY1, Nat.reduceAdd, Nat.reduceMul, Nat.reduceSub, Nat.reduceLeDiff, Nat.reduceEqDiff, Nat.reduceLT, Nat.reduceBEq, ↓reduceIte, Int.reduceLE, Int.reduceLT, Int.reduceToNat, Int.reduceNeg, reduceCtorEq, Int.reduceEq, SF0, SF1, SF2, DDc0, DCg0, DCe0, DCa0, DCa1, DDb0, DBc0, DBa0, Plan.cs_eq]
      refine ⟨(k, Plan.mk q.op q.at_ q.pa (!q.tu) q.ks, p1 + 1), ⟨hk, Plan.Small.mk (by omega) (by omega) (by omega) o4 o5, by simp only []; omega, by simp only []; omega⟩, ?_⟩
      (refine wk_le ?_ ?_ ?_; (focus (simp [W8, leTm, leAV, AV.under, underL, rdr, Work.under, Plan.under, Work.cs, Plan.cs_eq, Plan.op, Plan.at_, Plan.pa, Plan.tu, Plan.ks]; done)); (focus (simp [leL, OB.under, underL, AV.under, rdr, Work.under, Plan.under, Work.cs, Plan.cs_eq, Plan.op, Plan.at_, Plan.pa, Plan.tu, Plan.ks]; done)); (focus (simp; done)))
    · simp (disch := omega) only [SX0, SX1, SX2, SX3, SX4, SX5, SX6, SX7, SX8, SU0, SY0, SY1, Nat.reduceAdd, Nat.reduceMul, Nat.reduceSub, Nat.reduceLeDiff, Nat.reduceEqDiff, Nat.reduceLT, Nat.reduceBEq, ↓reduceIte, Int.reduceLE, Int.reduceLT, Int.reduceToNat, Int.reduceNeg, reduceCtorEq, Int.reduceEq, SF0, SF1, SF2, DDc0, DCg0, DCe0, DCa0, DCa1, DDb0, DBc0, DBa0]
      refine ⟨(k, q, p1 + 1), ⟨hk, hq, by simp only []; omega, by simp only []; omega⟩, ?_⟩
      (refine wk_le ?_ ?_ ?_; (focus (simp [W8, leTm, leAV, AV.under, underL, rdr, Work.under, Plan.under]; done)); (focus (simp [leL, OB.under, underL, AV.under, rdr, Work.under, Plan.under]; done)); (focus (simp; done)))
  obtain ⟨k2, q2, p2⟩ := g
  simp only at hg
  refine awp_end (bl := []) T_tt ?_
  simp (disch := omega) only [SX0, SX1, SX2, SX3, SX4, SX5, SX6, SX7, SX8, SU0, SY0, SY1, Nat.reduceAdd, Nat.reduceMul, Nat.reduceSub, Nat.reduceLeDiff, Nat.reduceEqDiff, Nat.reduceLT, Nat.reduceBEq, ↓reduceIte, Int.reduceLE, Int.reduceLT, Int.reduceToNat, Int.reduceNeg, reduceCtorEq, Int.reduceEq, SF0, SF1, SF2, DDc0, DCg0, DCe0, DCa0, DCa1, DDb0, DBc0, DBa0]
  refine awp_float (bl := []) T_tt mixed [0, 1, 2, 3, 4] [0, 1] [(2, [(0, .f 56)]), (3, [(1, .f 57)])] [] (by kernel_rfl) (by kernel_rfl) ?_
  simp (disch := omega) only [SX0, SX1, SX2, SX3, SX4, SX5, SX6, SX7, SX8, SU0, SY0, SY1, Nat.reduceAdd, Nat.reduceMul, Nat.reduceSub, Nat.reduceLeDiff, Nat.reduceEqDiff, Nat.reduceLT, Nat.reduceBEq, ↓reduceIte, Int.reduceLE, Int.reduceLT, Int.reduceToNat, Int.reduceNeg, reduceCtorEq, Int.reduceEq, SF0, SF1, SF2, DDc0, DCg0, DCe0, DCa0, DCa1, DDb0, DBc0, DBa0]
  exact fin_zero (.tup [.agg k2.cs, .agg q2.cs]) (rdr xs p2) ⟨k2, q2, p2, rfl, rfl, hg⟩ (by simp [AV.ren, renL, Work.rend, Plan.rend]) (by rw [rdr_ren]; rfl) (by simp) (by simp)
end Go.Pc
