/- Steps that are drawn. -/
import Derived.Test.YtkcpcmobmalijaaSb
import Derived.Test.YtkcpcmobmalijaaDe
import Derived.Test.YtkcpcmobmalijaaAlf
set_option linter.unusedSimpArgs false
set_option linter.unusedVariables false
namespace Go.Pc
open Go Go.Proofs

theorem Plan.knots_len : ∀ (p : Plan), p.wf = true → ∀ n a, 2 * (p.knots n a).length + 1 = p.nodes :=
  Plan.wf_ind (fun p hw hc n a => by rw [Plan.knots_leaf hc, Plan.nodes_leaf hw hc]; rfl) (fun p x y hw hc hk hx hy ix iy n a => by
    have := Plan.nodes_two hk
    have := ix (n + 1) n
    have := iy (n + 1 + x.nodes) n
    rw [Plan.knots_cut hc hk]; simp; omega)

theorem e_cutsOfS : Enters Try.prog 146 := enters_of Try.func146 (by kernel_rfl) (by kernel_rfl)
set_option maxHeartbeats 1000000 in
theorem cutsOfS_n : ∀ (n : Nat) (p : Plan), p.nodes ≤ n → p.wf = true → p.nodes ≤ 255 → ACalls Try.prog 146 [.agg p.cs] [] [] (fun r L => r = .val (.int .i64 ((p.nodes - 1) / 2 : Nat)) ∧ L = []) := by
  intro n
  induction n with
  | zero => intro p h; have := p.nodes_pos; omega
  | succ n ih =>
  intro p hn hw h255
  refine acalls_tm T_tt Try.func146 rfl e_cutsOfS 17 rfl (W8 _ .any .any .any .any .any .any .any (W8 .any .any .any .any .any .any .any .any [.any, .any])) rfl (rv := [.tmp 2]) rfl (sx_sound (bl := []) T_tt _ _ _ ?_)
  simp (disch := omega) only [SX0, SX1, SX2, SX3, SX4, SX5, SX6, SX7, SX8, SU0, SY0, SY1, Nat.reduceAdd, Nat.reduceMul, Nat.reduceSub, Nat.reduceLeDiff, Nat.reduceEqDiff, Nat.reduceLT, Nat.reduceBEq, ↓reduceIte, Int.reduceLE, Int.reduceLT, Int.reduceToNat, Int.reduceNeg, reduceCtorEq, Int.reduceEq, SF0, SF1, SF2, DCg0, DCe0, DCe1, DCe2, DDb0, DBc0, DBc1, DHb0, DHb1, DHa0, DDe0]
  refine acall_one (isCutS_c p) (by simp [freeL, AV.free, Plan.free]) rfl ?_
  simp (disch := omega) only [SX0, SX1, SX2, SX3, SX4, SX5, SX6, SX7, SX8, SU0, SY0, SY1, Nat.reduceAdd, Nat.reduceMul, Nat.reduceSub, Nat.reduceLeDiff, Nat.reduceEqDiff, Nat.reduceLT, Nat.reduceBEq, ↓reduceIte, Int.reduceLE, Int.reduceLT, Int.reduceToNat, Int.reduceNeg, reduceCtorEq, Int.reduceEq, SF0, SF1, SF2, DCg0, DCe0, DCe1, DCe2, DDb0, DBc0, DBc1, DHb0, DHb1, DHa0, DDe0]
  refine br_ndec (fun hc => ?_) (fun hc => ?_)
  · simp (disch := omega) only [SX0, SX1, SX2, SX3, SX4, SX5, SX6, SX7, SX8, SU0, SY0, SY1, Nat.reduceAdd, Nat.reduceMul, Nat.reduceSub, Nat.reduceLeDiff, Nat.reduceEqDiff, Nat.reduceLT, Nat.reduceBEq, ↓reduceIte, Int.reduceLE, Int.reduceLT, Int.reduceToNat, Int.reduceNeg, reduceCtorEq, Int.reduceEq, SF0, SF1, SF2, DCg0, DCe0, DCe1, DCe2, DDb0, DBc0, DBc1, DHb0, DHb1, DHa0, DDe0]
    exact fin_val ⟨by rw [Plan.nodes_leaf hw hc]; rfl, rfl⟩
  obtain ⟨x, y, hk, hx, hy, nx, ny⟩ := Plan.two hw hc
  have hnn := Plan.nodes_two hk
  have hlx := Plan.knots_len x hx 0 0
  have hly := Plan.knots_len y hy 0 0
  simp (disch := omega) only [SX0, SX1, SX2, SX3, SX4, SX5, SX6, SX7, SX8, SU0, SY0, SY1, Nat.reduceAdd, Nat.reduceMul, Nat.reduceSub, Nat.reduceLeDiff, Nat.reduceEqDiff, Nat.reduceLT, Nat.reduceBEq, ↓reduceIte, Int.reduceLE, Int.reduceLT, Int.reduceToNat, Int.reduceNeg, reduceCtorEq, Int.reduceEq, SF0, SF1, SF2, DCg0, DCe0, DCe1, DCe2, DDb0, DBc0, DBc1, DHb0, DHb1, DHa0, DDe0]
  refine awp_drawA T_tt mixed (by decide +kernel) (by kernel_rfl) (by kernel_rfl) ?_
  simp (disch := omega) only [SX0, SX1, SX2, SX3, SX4, SX5, SX6, SX7, SX8, SU0, SY0, SY1, Nat.reduceAdd, Nat.reduceMul, Nat.reduceSub, Nat.reduceLeDiff, Nat.reduceEqDiff, Nat.reduceLT, Nat.reduceBEq, ↓reduceIte, Int.reduceLE, Int.reduceLT, Int.reduceToNat, Int.reduceNeg, reduceCtorEq, Int.reduceEq, SF0, SF1, SF2, DCg0, DCe0, DCe1, DCe2, DDb0, DBc0, DBc1, DHb0, DHb1, DHa0, DDe0, hk]
  refine qc_one (ih x (by omega) hx (by omega)) (by simp [freeL, AV.free, Plan.free]) ?_
  simp (disch := omega) only [SX0, SX1, SX2, SX3, SX4, SX5, SX6, SX7, SX8, SU0, SY0, SY1, Nat.reduceAdd, Nat.reduceMul, Nat.reduceSub, Nat.reduceLeDiff, Nat.reduceEqDiff, Nat.reduceLT, Nat.reduceBEq, ↓reduceIte, Int.reduceLE, Int.reduceLT, Int.reduceToNat, Int.reduceNeg, reduceCtorEq, Int.reduceEq, SF0, SF1, SF2, DCg0, DCe0, DCe1, DCe2, DDb0, DBc0, DBc1, DHb0, DHb1, DHa0, DDe0, hk]
  refine qc_one (ih y (by omega) hy (by omega)) (by simp [freeL, AV.free, Plan.free]) ?_
  simp (disch := omega) only [SX0, SX1, SX2, SX3, SX4, SX5, SX6, SX7, SX8, SU0, SY0, SY1, Nat.reduceAdd, Nat.reduceMul, Nat.reduceSub, Nat.reduceLeDiff, Nat.reduceEqDiff, Nat.reduceLT, Nat.reduceBEq, ↓reduceIte, Int.reduceLE, Int.reduceLT, Int.reduceToNat, Int.reduceNeg, reduceCtorEq, Int.reduceEq, SF0, SF1, SF2, DCg0, DCe0, DCe1, DCe2, DDb0, DBc0, DBc1, DHb0, DHb1, DHa0, DDe0]
  exact fin_val ⟨by congr 2; omega, rfl⟩

theorem e_cutsPlan : Enters Try.prog 105 := enters_of Try.func105 (by kernel_rfl) (by kernel_rfl)
set_option maxRecDepth 8000 in
set_option maxHeartbeats 4000000 in
theorem cutsPlan_c (xs : List Int) (p m : Int) (hx : ∀ x ∈ xs, 0 ≤ x ∧ x < 256) (hl : xs.length ≤ 2000) (hp : 0 ≤ p ∧ p ≤ 700000000) : ACalls Try.prog 105 [.ptr 0 0, .val (.int .i64 m)] [rdr xs p] [0] (Drawn xs p 2500) := by
  refine acalls_tm T_tt Try.func105 rfl e_cutsPlan 31 rfl (W8 _ _ .any .any .any .any .any .any (W8 .any .any .any .any .any .any .any .any (W8 .any .any .any .any .any .any .any .any (W8 .any .any .any .any .any .any .any .any [.any])))) rfl (rv := [.cell 4 25, .cell 5 31]) rfl (sx_sound (bl := []) T_tt _ _ _ ?_)
  simp (disch := omega) only [SX0, SX1, SX2, SX3, SX4, SX5, SX6, SX7, SX8, SU0, SY0, SY1, Nat.reduceAdd, Nat.reduceMul, Nat.reduceSub, Nat.reduceLeDiff, Nat.reduceEqDiff, Nat.reduceLT, Nat.reduceBEq, ↓reduceIte, Int.reduceLE, Int.reduceLT, Int.reduceToNat, Int.reduceNeg, reduceCtorEq, Int.reduceEq, SF0, SF1, SF2, DCg0, DCe0, DCe1, DCe2, DDb0, DBc0, DBc1, DHb0, DHb1, DHa0, DDe0]
  with_reducible refine awp_loop_h (G := Nat × Int) 7 26 (fun g => [(6, .val (.int .i64 g.1))]) (fun g => [rdr xs g.2, .cells [.val (.int .i64 0), .val (.int .i64 0), .val (.slice none 0 0)], .cells [.val (.int .i64 0), .val (.int .i64 0), .val (.int .i64 0), .val (.bool false), .val (.slice none 0 0)]]) (fun g => g.1 ≤ 4 ∧ p ≤ g.2 ∧ g.2 ≤ p + 400 * g.1) (fun g => 4 - g.1) (0, p) ⟨by simp only []; omega, by simp only []; omega, by simp only []; omega⟩ ?_ (fun g hg => sx_sound (bl := []) T_tt _ _ _ ?_)
  · simp (disch := omega) only [SX0, SX1, SX2, SX3, SX4, SX5, SX6, SX7, SX8, SU0, SY0, SY1, Nat.reduceAdd, Nat.reduceMul, Nat.reduceSub, Nat.reduceLeDiff, Nat.reduceEqDiff, Nat.reduceLT, Nat.reduceBEq, ↓reduceIte, Int.reduceLE, Int.reduceLT, Int.reduceToNat, Int.reduceNeg, reduceCtorEq, Int.reduceEq, SF0, SF1, SF2, DCg0, DCe0, DCe1, DCe2, DDb0, DBc0, DBc1, DHb0, DHb1, DHa0, DDe0]
    (refine wk_le ?_ ?_ ?_; (focus (simp [W8, leTm, leAV, AV.under, underL, rdr]; done)); (focus (simp [leL, OB.under, underL, AV.under, rdr]; done)); (focus (simp; done)))
  obtain ⟨i, p1⟩ := g
  simp only at hg
  simp (disch := omega) only [SX0, SX1, SX2, SX3, SX4, SX5, SX6, SX7, SX8, SU0, SY0, SY1, Nat.reduceAdd, Nat.reduceMul, Nat.reduceSub, Nat.reduceLeDiff, Nat.reduceEqDiff, Nat.reduceLT, Nat.reduceBEq, ↓reduceIte, Int.reduceLE, Int.reduceLT, Int.reduceToNat, Int.reduceNeg, reduceCtorEq, Int.reduceEq, SF0, SF1, SF2, DCg0, DCe0, DCe1, DCe2, DDb0, DBc0, DBc1, DHb0, DHb1, DHa0, DDe0]
  refine br_dec (fun h1 => ?_) (fun h1 => ?_)
  · simp (disch := omega) only [SX0, SX1, SX2, SX3, SX4, SX5, SX6, SX7, SX8, SU0, SY0, SY1, Nat.reduceAdd, Nat.reduceMul, Nat.reduceSub, Nat.reduceLeDiff, Nat.reduceEqDiff, Nat.reduceLT, Nat.reduceBEq, ↓reduceIte, Int.reduceLE, Int.reduceLT, Int.reduceToNat, Int.reduceNeg, reduceCtorEq, Int.reduceEq, SF0, SF1, SF2, DCg0, DCe0, DCe1, DCe2, DDb0, DBc0, DBc1, DHb0, DHb1, DHa0, DDe0]
    refine acall_own (workPlan_v xs p1 hx hl (by omega)) [0] [] (by simp only [SX0, SX1, SX2, SX3, SX4, SX5, SX6, SX7, SX8, SU0, SY0, SY1, Nat.reduceAdd, Nat.reduceMul, Nat.reduceSub, Nat.reduceLeDiff, Nat.reduceEqDiff, Nat.reduceLT, Nat.reduceBEq, ↓reduceIte, Int.reduceLE, Int.reduceLT, Int.reduceToNat, Int.reduceNeg, reduceCtorEq, Int.reduceEq, SF0, SF1, SF2, DCg0, DCe0, DCe1, DCe2, DDb0, DBc0, DBc1, DHb0, DHb1, DHa0, DDe0, SX0]) (by decide) (by decide) (by rfl) (by simp only [SX0, SX1, SX2, SX3, SX4, SX5, SX6, SX7, SX8, SU0, SY0, SY1, Nat.reduceAdd, Nat.reduceMul, Nat.reduceSub, Nat.reduceLeDiff, Nat.reduceEqDiff, Nat.reduceLT, Nat.reduceBEq, ↓reduceIte, Int.reduceLE, Int.reduceLT, Int.reduceToNat, Int.reduceNeg, reduceCtorEq, Int.reduceEq, SF0, SF1, SF2, DCg0, DCe0, DCe1, DCe2, DDb0, DBc0, DBc1, DHb0, DHb1, DHa0, DDe0, SX0]) ?_
    rintro _ _ ⟨k, q, p2, rfl, rfl, hk, hq, hp2, hk1, hk2, hqv, hqn⟩
    simp (disch := omega) only [SX0, SX1, SX2, SX3, SX4, SX5, SX6, SX7, SX8, SU0, SY0, SY1, Nat.reduceAdd, Nat.reduceMul, Nat.reduceSub, Nat.reduceLeDiff, Nat.reduceEqDiff, Nat.reduceLT, Nat.reduceBEq, ↓reduceIte, Int.reduceLE, Int.reduceLT, Int.reduceToNat, Int.reduceNeg, reduceCtorEq, Int.reduceEq, SF0, SF1, SF2, DCg0, DCe0, DCe1, DCe2, DDb0, DBc0, DBc1, DHb0, DHb1, DHa0, DDe0]
    have C := cutsOfS_n _ q (Nat.le_refl _) hqv.2.1.1 hqv.2.1.2
    refine acall_one C (by simp [freeL, AV.free, Plan.free]) rfl ?_
    simp (disch := omega) only [SX0, SX1, SX2, SX3, SX4, SX5, SX6, SX7, SX8, SU0, SY0, SY1, Nat.reduceAdd, Nat.reduceMul, Nat.reduceSub, Nat.reduceLeDiff, Nat.reduceEqDiff, Nat.reduceLT, Nat.reduceBEq, ↓reduceIte, Int.reduceLE, Int.reduceLT, Int.reduceToNat, Int.reduceNeg, reduceCtorEq, Int.reduceEq, SF0, SF1, SF2, DCg0, DCe0, DCe1, DCe2, DDb0, DBc0, DBc1, DHb0, DHb1, DHa0, DDe0]
    refine br_dec (fun h2 => ?_) (fun h2 => ?_)
    · simp (disch := omega) only [SX0, SX1, SX2, SX3, SX4, SX5, SX6, SX7, SX8, SU0, SY0, SY1, Nat.reduceAdd, Nat.reduceMul, Nat.reduceSub, Nat.reduceLeDiff, Nat.reduceEqDiff, Nat.reduceLT, Nat.reduceBEq, ↓reduceIte, Int.reduceLE, Int.reduceLT, Int.reduceToNat, Int.reduceNeg, reduceCtorEq, Int.reduceEq, SF0, SF1, SF2, DCg0, DCe0, DCe1, DCe2, DDb0, DBc0, DBc1, DHb0, DHb1, DHa0, DDe0]
      refine acall_one C (by simp [freeL, AV.free, Plan.free]) rfl ?_
      simp (disch := omega) only [SX0, SX1, SX2, SX3, SX4, SX5, SX6, SX7, SX8, SU0, SY0, SY1, Nat.reduceAdd, Nat.reduceMul, Nat.reduceSub, Nat.reduceLeDiff, Nat.reduceEqDiff, Nat.reduceLT, Nat.reduceBEq, ↓reduceIte, Int.reduceLE, Int.reduceLT, Int.reduceToNat, Int.reduceNeg, reduceCtorEq, Int.reduceEq, SF0, SF1, SF2, DCg0, DCe0, DCe1, DCe2, DDb0, DBc0, DBc1, DHb0, DHb1, DHa0, DDe0]
      refine br_dec (fun h3 => ?_) (fun h3 => ?_)
      · simp (disch := omega) only [SX0, SX1, SX2, SX3, SX4, SX5, SX6, SX7, SX8, SU0, SY0, SY1, Nat.reduceAdd, Nat.reduceMul, Nat.reduceSub, Nat.reduceLeDiff, Nat.reduceEqDiff, Nat.reduceLT, Nat.reduceBEq, ↓reduceIte, Int.reduceLE, Int.reduceLT, Int.reduceToNat, Int.reduceNeg, reduceCtorEq, Int.reduceEq, SF0, SF1, SF2, DCg0, DCe0, DCe1, DCe2, DDb0, DBc0, DBc1, DHb0, DHb1, DHa0, DDe0]
        refine awp_float (bl := []) T_tt mixed [0, 1, 2, 3, 4] [0, 1] [(2, [(0, .f 27)]), (3, [(1, .f 28)])] [] (by kernel_rfl) (by kernel_rfl) ?_
        simp (disch := omega) only [SX0, SX1, SX2, SX3, SX4, SX5, SX6, SX7, SX8, SU0, SY0, SY1, Nat.reduceAdd, Nat.reduceMul, Nat.reduceSub, Nat.reduceLeDiff, Nat.reduceEqDiff, Nat.reduceLT, Nat.reduceBEq, ↓reduceIte, Int.reduceLE, Int.reduceLT, Int.reduceToNat, Int.reduceNeg, reduceCtorEq, Int.reduceEq, SF0, SF1, SF2, DCg0, DCe0, DCe1, DCe2, DDb0, DBc0, DBc1, DHb0, DHb1, DHa0, DDe0]
        exact fin_zero (.tup [.agg k.cs, .agg q.cs]) (rdr xs p2) ⟨k, q, p2, rfl, rfl, hk, hq, ⟨by omega, by omega⟩, hk1, by omega⟩ (by simp [AV.ren, renL, Work.rend, Plan.rend]) (by rw [rdr_ren]; rfl) (by simp) (by simp)
      · simp (disch := omega) only [SX0, SX1, SX2, SX3, SX4, SX5, SX6, SX7, SX8, SU0, SY0, SY1, Nat.reduceAdd, Nat.reduceMul, Nat.reduceSub, Nat.reduceLeDiff, Nat.reduceEqDiff, Nat.reduceLT, Nat.reduceBEq, ↓reduceIte, Int.reduceLE, Int.reduceLT, Int.reduceToNat, Int.reduceNeg, reduceCtorEq, Int.reduceEq, SF0, SF1, SF2, DCg0, DCe0, DCe1, DCe2, DDb0, DBc0, DBc1, DHb0, DHb1, DHa0, DDe0]
        refine ⟨(i + 1, p2), ⟨by simp only []; omega, by simp only []; omega, by simp only []; omega⟩, by simp only []; omega, ?_⟩
        (refine wk_le ?_ ?_ ?_; (focus (simp [W8, leTm, leAV, AV.under, underL, rdr, Work.under, Plan.under]; done)); (focus (simp [leL, OB.under, underL, AV.under, rdr, Work.under, Plan.under]; done)); (focus (simp; done)))
    · simp (disch := omega) only [SX0, SX1, SX2, SX3, SX4, SX5, SX6, SX7, SX8, SU0, SY0, SY1, Nat.reduceAdd, Nat.reduceMul, Nat.reduceSub, Nat.reduceLeDiff, Nat.reduceEqDiff, Nat.reduceLT, Nat.reduceBEq, ↓reduceIte, Int.reduceLE, Int.reduceLT, Int.reduceToNat, Int.reduceNeg, reduceCtorEq, Int.reduceEq, SF0, SF1, SF2, DCg0, DCe0, DCe1, DCe2, DDb0, DBc0, DBc1, DHb0, DHb1, DHa0, DDe0]
      refine ⟨(i + 1, p2), ⟨by simp only []; omega, by simp only []; omega, by simp only []; omega⟩, by simp only []; omega, ?_⟩
      (refine wk_le ?_ ?_ ?_; (focus (simp [W8, leTm, leAV, AV.under, underL, rdr, Work.under, Plan.under]; done)); (focus (simp [leL, OB.under, underL, AV.under, rdr, Work.under, Plan.under]; done)); (focus (simp; done)))
  · simp (disch := omega) only [SX0, SX1, SX2, SX3, SX4, SX5, SX6, SX7, SX8, SU0, SY0, SY1, Nat.reduceAdd, Nat.reduceMul, Nat.reduceSub, Nat.reduceLeDiff, Nat.reduceEqDiff, Nat.reduceLT, Nat.reduceBEq, ↓reduceIte, Int.reduceLE, Int.reduceLT, Int.reduceToNat, Int.reduceNeg, reduceCtorEq, Int.reduceEq, SF0, SF1, SF2, DCg0, DCe0, DCe1, DCe2, DDb0, DBc0, DBc1, DHb0, DHb1, DHa0, DDe0]
    refine acall_own (anyPlan_c xs p1 hx hl (by omega)) [0] [] (by simp only [SX0, SX1, SX2, SX3, SX4, SX5, SX6, SX7, SX8, SU0, SY0, SY1, Nat.reduceAdd, Nat.reduceMul, Nat.reduceSub, Nat.reduceLeDiff, Nat.reduceEqDiff, Nat.reduceLT, Nat.reduceBEq, ↓reduceIte, Int.reduceLE, Int.reduceLT, Int.reduceToNat, Int.reduceNeg, reduceCtorEq, Int.reduceEq, SF0, SF1, SF2, DCg0, DCe0, DCe1, DCe2, DDb0, DBc0, DBc1, DHb0, DHb1, DHa0, DDe0, SX0]) (by decide) (by decide) (by rfl) (by simp only [SX0, SX1, SX2, SX3, SX4, SX5, SX6, SX7, SX8, SU0, SY0, SY1, Nat.reduceAdd, Nat.reduceMul, Nat.reduceSub, Nat.reduceLeDiff, Nat.reduceEqDiff, Nat.reduceLT, Nat.reduceBEq, ↓reduceIte, Int.reduceLE, Int.reduceLT, Int.reduceToNat, Int.reduceNeg, reduceCtorEq, Int.reduceEq, SF0, SF1, SF2, DCg0, DCe0, DCe1, DCe2, DDb0, DBc0, DBc1, DHb0, DHb1, DHa0, DDe0, SX0]) ?_
    rintro _ _ ⟨k, q, p2, rfl, rfl, hk, hq, hp2, hkw⟩
    simp (disch := omega) only [SX0, SX1, SX2, SX3, SX4, SX5, SX6, SX7, SX8, SU0, SY0, SY1, Nat.reduceAdd, Nat.reduceMul, Nat.reduceSub, Nat.reduceLeDiff, Nat.reduceEqDiff, Nat.reduceLT, Nat.reduceBEq, ↓reduceIte, Int.reduceLE, Int.reduceLT, Int.reduceToNat, Int.reduceNeg, reduceCtorEq, Int.reduceEq, SF0, SF1, SF2, DCg0, DCe0, DCe1, DCe2, DDb0, DBc0, DBc1, DHb0, DHb1, DHa0, DDe0]
    exact fin_zero (.tup [.agg k.cs, .agg q.cs]) (rdr xs p2) ⟨k, q, p2, rfl, rfl, hk, hq, ⟨by omega, by omega⟩, hkw.1, by omega⟩ (by simp [AV.ren, renL, Work.rend, Plan.rend]) (by rw [rdr_ren]; rfl) (by simp) (by simp)

theorem ints_len (l : List Int) : (ints l).length = l.length := by simp [ints]

theorem placeIn_own {fx : List Nat} {S : List Int} (hS : S.length < 2 ^ 40) {r : Nat} {s : AS} (hL : s.L[r]? = some (.vec 1 (S.map fun x => [AV.val (.int .i64 x)]))) (n : Int) {K : AV → AS → Prop} (hK : K (.val (.int .i64 (placeI S n))) s) :
    ACall Try.prog fx (.fn 116 []) [.os r 1 0 S.length, .val (.int .i64 n)] s K := by
  refine acall_borrow hL (v := .int .i64 (placeI S n)) ?_ hK
  simp only [List.map_cons, List.map_nil, AV.frz, if_true, Nat.zero_add, List.drop_zero, true_and, List.length_map, Nat.le_refl]
  rw [List.take_of_length_le (by simp)]
  exact qcall_one (placeIn_c S n hS) rfl

def gap (f n j : Nat) : Nat := if j ≤ f then f - j else f + n - j
theorem gap_next {f n j : Nat} (hj : j < n) (hf : f < n) (hne : j ≠ f) : (if j + 1 = n then 0 else j + 1) < n ∧ gap f n (if j + 1 = n then 0 else j + 1) < gap f n j := by
  unfold gap
  split <;> split <;> split <;> omega

theorem rem_next {j n : Nat} (h : j < n) : Int.tmod ((j : Int) + 1) n = ((if j + 1 = n then 0 else j + 1 : Nat) : Int) := by
  split
  · rename_i e
    subst e
    simp
  · rw [Int.tmod_eq_of_lt (by omega) (by omega)]; simp

theorem e_someSteps : Enters Try.prog 148 := enters_of Try.func148 (by kernel_rfl) (by kernel_rfl)
set_option maxRecDepth 8000 in
set_option maxHeartbeats 4000000 in
theorem someSteps_c (xs : List Int) (p0 : Int) (hx : ∀ x ∈ xs, 0 ≤ x ∧ x < 256) (hl : xs.length ≤ 2000) (hp : 0 ≤ p0 ∧ p0 ≤ 900000000) (p : Plan) (hpw : p.wf = true ∧ p.nodes ≤ 255) : ACalls Try.prog 148 [.ptr 0 0, .agg p.cs] [rdr xs p0] [0] (fun r L => ∃ (S : List Int) (p' : Int), r = .os 1 1 0 S.length ∧ L = [rdr xs p', .vec 1 (ints S)] ∧ S.length ≤ 255 ∧ p0 ≤ p' ∧ p' ≤ p0 + 255) := by
  have I := innerNodes_c p hpw
  have A := aboves_c p hpw
  have hkl := Plan.knots_le p hpw.1 0 (-1)
  have hanc := Plan.knots_anc p hpw.1 0 (-1)
  obtain ⟨f1, f2⟩ := Plan.knots_facts hpw.1
  have lf : (fsts (p.knots 0 (-1))).length = (p.knots 0 (-1)).length := by simp [fsts]
  have ls : (snds (p.knots 0 (-1))).length = (p.knots 0 (-1)).length := by simp [snds]
  generalize p.knots 0 (-1) = ks at *
  refine acalls_tm T_tt Try.func148 rfl e_someSteps 57 rfl (W8 _ _ .any .any .any .any .any .any (W8 .any .any .any .any .any .any .any .any (W8 .any .any .any .any .any .any .any .any (W8 .any .any .any .any .any .any .any .any (W8 .any .any .any .any .any .any .any .any (W8 .any .any .any .any .any .any .any .any (W8 .any .any .any .any .any .any .any .any [.any, .any, .any]))))))) rfl (rv := [.tmp 4]) rfl (sx_sound (bl := [13]) T_tt _ _ _ ?_)
  simp (disch := omega) only [SX0, SX1, SX2, SX3, SX4, SX5, SX6, SX7, SX8, SU0, SY0, SY1, Nat.reduceAdd, Nat.reduceMul, Nat.reduceSub, Nat.reduceLeDiff, Nat.reduceEqDiff, Nat.reduceLT, Nat.reduceBEq, ↓reduceIte, Int.reduceLE, Int.reduceLT, Int.reduceToNat, Int.reduceNeg, reduceCtorEq, Int.reduceEq, SF0, SF1, SF2, DCg0, DCe0, DCe1, DCe2, DDb0, DBc0, DBc1, DHb0, DHb1, DHa0, DDe0]
  refine acall_one I (by simp [freeL, AV.free, Plan.free]) rfl ?_
  simp (disch := omega) only [SX0, SX1, SX2, SX3, SX4, SX5, SX6, SX7, SX8, SU0, SY0, SY1, Nat.reduceAdd, Nat.reduceMul, Nat.reduceSub, Nat.reduceLeDiff, Nat.reduceEqDiff, Nat.reduceLT, Nat.reduceBEq, ↓reduceIte, Int.reduceLE, Int.reduceLT, Int.reduceToNat, Int.reduceNeg, reduceCtorEq, Int.reduceEq, SF0, SF1, SF2, DCg0, DCe0, DCe1, DCe2, DDb0, DBc0, DBc1, DHb0, DHb1, DHa0, DDe0]
  refine acall_one A (by simp [freeL, AV.free, Plan.free]) rfl ?_
  simp (disch := omega) only [SX0, SX1, SX2, SX3, SX4, SX5, SX6, SX7, SX8, SU0, SY0, SY1, Nat.reduceAdd, Nat.reduceMul, Nat.reduceSub, Nat.reduceLeDiff, Nat.reduceEqDiff, Nat.reduceLT, Nat.reduceBEq, ↓reduceIte, Int.reduceLE, Int.reduceLT, Int.reduceToNat, Int.reduceNeg, reduceCtorEq, Int.reduceEq, SF0, SF1, SF2, DCg0, DCe0, DCe1, DCe2, DDb0, DBc0, DBc1, DHb0, DHb1, DHa0, DDe0]
  with_reducible refine awp_loop_h (G := List Int × Int) 8 51 (fun g => [(7, .os 2 1 0 g.1.length)]) (fun g => [rdr xs g.2, .cells p.cs, .vec 1 (ints g.1)]) (fun g => g.1.length ≤ ks.length ∧ p0 ≤ g.2 ∧ g.2 ≤ p0 + g.1.length) (fun g => ks.length - g.1.length) ([], p0) ⟨by simp, by simp only []; omega, by simp⟩ ?_ (fun g hg => sx_sound (bl := []) T_tt _ _ _ ?_)
  · simp (disch := omega) only [SX0, SX1, SX2, SX3, SX4, SX5, SX6, SX7, SX8, SU0, SY0, SY1, Nat.reduceAdd, Nat.reduceMul, Nat.reduceSub, Nat.reduceLeDiff, Nat.reduceEqDiff, Nat.reduceLT, Nat.reduceBEq, ↓reduceIte, Int.reduceLE, Int.reduceLT, Int.reduceToNat, Int.reduceNeg, reduceCtorEq, Int.reduceEq, SF0, SF1, SF2, DCg0, DCe0, DCe1, DCe2, DDb0, DBc0, DBc1, DHb0, DHb1, DHa0, DDe0]
    (refine wk_le ?_ ?_ ?_; (focus (simp [W8, leTm, leAV, AV.under, underL, rdr, Plan.under]; done)); (focus (simp [leL, OB.under, underL, AV.under, rdr, Plan.under]; done)); (focus (simp; done)))
  obtain ⟨S, p1⟩ := g
  simp only at hg
  simp (disch := omega) only [SX0, SX1, SX2, SX3, SX4, SX5, SX6, SX7, SX8, SU0, SY0, SY1, Nat.reduceAdd, Nat.reduceMul, Nat.reduceSub, Nat.reduceLeDiff, Nat.reduceEqDiff, Nat.reduceLT, Nat.reduceBEq, ↓reduceIte, Int.reduceLE, Int.reduceLT, Int.reduceToNat, Int.reduceNeg, reduceCtorEq, Int.reduceEq, SF0, SF1, SF2, DCg0, DCe0, DCe1, DCe2, DDb0, DBc0, DBc1, DHb0, DHb1, DHa0, DDe0, lf]
  refine br_dec (fun h1 => ?_) (fun h1 => ?_)
  · have hleft : ∃ q ∈ ks, q.1 ∉ S := Classical.byContradiction fun hno => by
      have := nodup_sub f1 (m := S) fun x hx => by
        obtain ⟨q, hq, rfl⟩ := List.mem_map.1 hx
        exact Classical.byContradiction fun hn => hno ⟨q, hq, hn⟩
      rw [List.length_map] at this
      omega
    obtain ⟨f, q0, hf1, hf2, hf3⟩ := Anc.free (D := S) hanc (fun x hx => by simp at hx; subst hx; exact .inl (by omega)) hleft
    have hfl := (List.getElem?_eq_some_iff.1 hf1).1
    simp (disch := omega) only [SX0, SX1, SX2, SX3, SX4, SX5, SX6, SX7, SX8, SU0, SY0, SY1, Nat.reduceAdd, Nat.reduceMul, Nat.reduceSub, Nat.reduceLeDiff, Nat.reduceEqDiff, Nat.reduceLT, Nat.reduceBEq, ↓reduceIte, Int.reduceLE, Int.reduceLT, Int.reduceToNat, Int.reduceNeg, reduceCtorEq, Int.reduceEq, SF0, SF1, SF2, DCg0, DCe0, DCe1, DCe2, DDb0, DBc0, DBc1, DHb0, DHb1, DHa0, DDe0, lf]
    refine pick_call hx hl (by omega) rfl fun c hc1 hc2 hc3 => ?_
    have hc2 := hc2 (by omega)
    simp (disch := omega) only [SX0, SX1, SX2, SX3, SX4, SX5, SX6, SX7, SX8, SU0, SY0, SY1, Nat.reduceAdd, Nat.reduceMul, Nat.reduceSub, Nat.reduceLeDiff, Nat.reduceEqDiff, Nat.reduceLT, Nat.reduceBEq, ↓reduceIte, Int.reduceLE, Int.reduceLT, Int.reduceToNat, Int.reduceNeg, reduceCtorEq, Int.reduceEq, SF0, SF1, SF2, DCg0, DCe0, DCe1, DCe2, DDb0, DBc0, DBc1, DHb0, DHb1, DHa0, DDe0]
    obtain ⟨c, rfl⟩ : ∃ n : Nat, c = n := ⟨c.toNat, by omega⟩
    have hS40 : S.length < 2 ^ 40 := by omega
    have hkp : ((ks.length : Nat) : Int) ≠ 0 := by omega
    have hc' : c < ks.length := by omega
    with_reducible refine awp_loop_h (G := Nat) 9 50 (fun j => [(8, .val (.int .i64 j))]) (fun _ => [rdr xs (p1 + 1), .cells p.cs, .vec 1 (ints S)]) (fun j => j < ks.length) (fun j => gap f ks.length j) c hc' ?_ ?_
    · simp (disch := omega) only [SX0, SX1, SX2, SX3, SX4, SX5, SX6, SX7, SX8, SU0, SY0, SY1, Nat.reduceAdd, Nat.reduceMul, Nat.reduceSub, Nat.reduceLeDiff, Nat.reduceEqDiff, Nat.reduceLT, Nat.reduceBEq, ↓reduceIte, Int.reduceLE, Int.reduceLT, Int.reduceToNat, Int.reduceNeg, reduceCtorEq, Int.reduceEq, SF0, SF1, SF2, DCg0, DCe0, DCe1, DCe2, DDb0, DBc0, DBc1, DHb0, DHb1, DHa0, DDe0]
      (refine wk_le ?_ ?_ ?_; (focus (simp [W8, leTm, leAV, AV.under, underL, rdr, Plan.under]; done)); (focus (simp [leL, OB.under, underL, AV.under, rdr, Plan.under]; done)); (focus (simp; done)))
    intro j hj'
    obtain ⟨q, hq⟩ := get_lt (l := ks) (i := j) (by omega)
    have hqa : (snds ks)[j]? = some q.2 := by unfold snds; rw [List.getElem?_map, hq]; rfl
    have hqf : (fsts ks)[j]? = some q.1 := by unfold fsts; rw [List.getElem?_map, hq]; rfl
    have hrem := rem_next hj'
    refine sx_sound (bl := []) T_tt _ _ _ ?_
    simp (disch := omega) only [SX0, SX1, SX2, SX3, SX4, SX5, SX6, SX7, SX8, SU0, SY0, SY1, Nat.reduceAdd, Nat.reduceMul, Nat.reduceSub, Nat.reduceLeDiff, Nat.reduceEqDiff, Nat.reduceLT, Nat.reduceBEq, ↓reduceIte, Int.reduceLE, Int.reduceLT, Int.reduceToNat, Int.reduceNeg, reduceCtorEq, Int.reduceEq, SF0, SF1, SF2, DCg0, DCe0, DCe1, DCe2, DDb0, DBc0, DBc1, DHb0, DHb1, DHa0, DDe0, hqf]
    refine placeIn_own hS40 rfl q.1 ?_
    simp (disch := omega) only [SX0, SX1, SX2, SX3, SX4, SX5, SX6, SX7, SX8, SU0, SY0, SY1, Nat.reduceAdd, Nat.reduceMul, Nat.reduceSub, Nat.reduceLeDiff, Nat.reduceEqDiff, Nat.reduceLT, Nat.reduceBEq, ↓reduceIte, Int.reduceLE, Int.reduceLT, Int.reduceToNat, Int.reduceNeg, reduceCtorEq, Int.reduceEq, SF0, SF1, SF2, DCg0, DCe0, DCe1, DCe2, DDb0, DBc0, DBc1, DHb0, DHb1, DHa0, DDe0]
    have next : j ≠ f → (if j + 1 = ks.length then 0 else j + 1) < ks.length ∧ gap f ks.length (if j + 1 = ks.length then 0 else j + 1) < gap f ks.length j := gap_next hj' hfl
    refine br_dec (fun h2 => ?_) (fun h2 => ?_)
    · have hjf : j ≠ f := fun e => by
        subst e
        rw [hq] at hf1; cases hf1
        have := placeI_neg.2 hf2
        omega
      obtain ⟨n1, n2⟩ := next hjf
      simp (disch := omega) only [SX0, SX1, SX2, SX3, SX4, SX5, SX6, SX7, SX8, SU0, SY0, SY1, Nat.reduceAdd, Nat.reduceMul, Nat.reduceSub, Nat.reduceLeDiff, Nat.reduceEqDiff, Nat.reduceLT, Nat.reduceBEq, ↓reduceIte, Int.reduceLE, Int.reduceLT, Int.reduceToNat, Int.reduceNeg, reduceCtorEq, Int.reduceEq, SF0, SF1, SF2, DCg0, DCe0, DCe1, DCe2, DDb0, DBc0, DBc1, DHb0, DHb1, DHa0, DDe0, lf]
      refine req (by omega) ?_
      simp (disch := omega) only [SX0, SX1, SX2, SX3, SX4, SX5, SX6, SX7, SX8, SU0, SY0, SY1, Nat.reduceAdd, Nat.reduceMul, Nat.reduceSub, Nat.reduceLeDiff, Nat.reduceEqDiff, Nat.reduceLT, Nat.reduceBEq, ↓reduceIte, Int.reduceLE, Int.reduceLT, Int.reduceToNat, Int.reduceNeg, reduceCtorEq, Int.reduceEq, SF0, SF1, SF2, DCg0, DCe0, DCe1, DCe2, DDb0, DBc0, DBc1, DHb0, DHb1, DHa0, DDe0, hrem]
      generalize (if j + 1 = ks.length then 0 else j + 1) = j2 at *
      refine ⟨j2, n1, n2, ?_⟩
      (refine wk_le ?_ ?_ ?_; (focus (simp [W8, leTm, leAV, AV.under, underL, rdr, Plan.under]; done)); (focus (simp [leL, OB.under, underL, AV.under, rdr, Plan.under]; done)); (focus (simp; done)))
    have h3 : q.1 ∉ S := placeI_neg.1 (by omega)
    have hSl : S.length ≤ 255 := by omega
    simp (disch := omega) only [SX0, SX1, SX2, SX3, SX4, SX5, SX6, SX7, SX8, SU0, SY0, SY1, Nat.reduceAdd, Nat.reduceMul, Nat.reduceSub, Nat.reduceLeDiff, Nat.reduceEqDiff, Nat.reduceLT, Nat.reduceBEq, ↓reduceIte, Int.reduceLE, Int.reduceLT, Int.reduceToNat, Int.reduceNeg, reduceCtorEq, Int.reduceEq, SF0, SF1, SF2, DCg0, DCe0, DCe1, DCe2, DDb0, DBc0, DBc1, DHb0, DHb1, DHa0, DDe0, hqa]
    refine br_dec (fun h4 => ?_) (fun h4 => ?_)
    · simp (disch := omega) only [SX0, SX1, SX2, SX3, SX4, SX5, SX6, SX7, SX8, SU0, SY0, SY1, Nat.reduceAdd, Nat.reduceMul, Nat.reduceSub, Nat.reduceLeDiff, Nat.reduceEqDiff, Nat.reduceLT, Nat.reduceBEq, ↓reduceIte, Int.reduceLE, Int.reduceLT, Int.reduceToNat, Int.reduceNeg, reduceCtorEq, Int.reduceEq, SF0, SF1, SF2, DCg0, DCe0, DCe1, DCe2, DDb0, DBc0, DBc1, DHb0, DHb1, DHa0, DDe0, hqa]
      refine placeIn_own hS40 rfl q.2 ?_
      simp (disch := omega) only [SX0, SX1, SX2, SX3, SX4, SX5, SX6, SX7, SX8, SU0, SY0, SY1, Nat.reduceAdd, Nat.reduceMul, Nat.reduceSub, Nat.reduceLeDiff, Nat.reduceEqDiff, Nat.reduceLT, Nat.reduceBEq, ↓reduceIte, Int.reduceLE, Int.reduceLT, Int.reduceToNat, Int.reduceNeg, reduceCtorEq, Int.reduceEq, SF0, SF1, SF2, DCg0, DCe0, DCe1, DCe2, DDb0, DBc0, DBc1, DHb0, DHb1, DHa0, DDe0]
      refine br_dec (fun h5 => ?_) (fun h5 => ?_)
      · have hjf : j ≠ f := fun e => by
          subst e
          rw [hq] at hf1; cases hf1
          rcases hf3 with h | h
          · omega
          · exact placeI_neg.1 h5 h
        obtain ⟨n1, n2⟩ := next hjf
        simp (disch := omega) only [SX0, SX1, SX2, SX3, SX4, SX5, SX6, SX7, SX8, SU0, SY0, SY1, Nat.reduceAdd, Nat.reduceMul, Nat.reduceSub, Nat.reduceLeDiff, Nat.reduceEqDiff, Nat.reduceLT, Nat.reduceBEq, ↓reduceIte, Int.reduceLE, Int.reduceLT, Int.reduceToNat, Int.reduceNeg, reduceCtorEq, Int.reduceEq, SF0, SF1, SF2, DCg0, DCe0, DCe1, DCe2, DDb0, DBc0, DBc1, DHb0, DHb1, DHa0, DDe0, lf]
        refine req (by omega) ?_
        simp (disch := omega) only [SX0, SX1, SX2, SX3, SX4, SX5, SX6, SX7, SX8, SU0, SY0, SY1, Nat.reduceAdd, Nat.reduceMul, Nat.reduceSub, Nat.reduceLeDiff, Nat.reduceEqDiff, Nat.reduceLT, Nat.reduceBEq, ↓reduceIte, Int.reduceLE, Int.reduceLT, Int.reduceToNat, Int.reduceNeg, reduceCtorEq, Int.reduceEq, SF0, SF1, SF2, DCg0, DCe0, DCe1, DCe2, DDb0, DBc0, DBc1, DHb0, DHb1, DHa0, DDe0, hrem]
        generalize (if j + 1 = ks.length then 0 else j + 1) = j2 at *
        refine ⟨j2, n1, n2, ?_⟩
        (refine wk_le ?_ ?_ ?_; (focus (simp [W8, leTm, leAV, AV.under, underL, rdr, Plan.under]; done)); (focus (simp [leL, OB.under, underL, AV.under, rdr, Plan.under]; done)); (focus (simp; done)))
      · simp (disch := omega) only [SX0, SX1, SX2, SX3, SX4, SX5, SX6, SX7, SX8, SU0, SY0, SY1, Nat.reduceAdd, Nat.reduceMul, Nat.reduceSub, Nat.reduceLeDiff, Nat.reduceEqDiff, Nat.reduceLT, Nat.reduceBEq, ↓reduceIte, Int.reduceLE, Int.reduceLT, Int.reduceToNat, Int.reduceNeg, reduceCtorEq, Int.reduceEq, SF0, SF1, SF2, DCg0, DCe0, DCe1, DCe2, DDb0, DBc0, DBc1, DHb0, DHb1, DHa0, DDe0, hqf]
        refine req (by omega) ?_
        simp (disch := omega) only [SX0, SX1, SX2, SX3, SX4, SX5, SX6, SX7, SX8, SU0, SY0, SY1, Nat.reduceAdd, Nat.reduceMul, Nat.reduceSub, Nat.reduceLeDiff, Nat.reduceEqDiff, Nat.reduceLT, Nat.reduceBEq, ↓reduceIte, Int.reduceLE, Int.reduceLT, Int.reduceToNat, Int.reduceNeg, reduceCtorEq, Int.reduceEq, SF0, SF1, SF2, DCg0, DCe0, DCe1, DCe2, DDb0, DBc0, DBc1, DHb0, DHb1, DHa0, DDe0]
        refine ⟨(S ++ [q.1], p1 + 1), ⟨by simp; omega, by simp only []; omega, by simp; omega⟩, by simp; omega, ?_⟩
        (refine wk_le ?_ ?_ ?_; (focus (simp [W8, leTm, leAV, AV.under, underL, rdr, Plan.under]; done)); (focus (simp [leL, OB.under, underL, AV.under, rdr, Plan.under]; done)); (focus (simp; done)))
    · simp (disch := omega) only [SX0, SX1, SX2, SX3, SX4, SX5, SX6, SX7, SX8, SU0, SY0, SY1, Nat.reduceAdd, Nat.reduceMul, Nat.reduceSub, Nat.reduceLeDiff, Nat.reduceEqDiff, Nat.reduceLT, Nat.reduceBEq, ↓reduceIte, Int.reduceLE, Int.reduceLT, Int.reduceToNat, Int.reduceNeg, reduceCtorEq, Int.reduceEq, SF0, SF1, SF2, DCg0, DCe0, DCe1, DCe2, DDb0, DBc0, DBc1, DHb0, DHb1, DHa0, DDe0, hqf]
      refine req (by omega) ?_
      simp (disch := omega) only [SX0, SX1, SX2, SX3, SX4, SX5, SX6, SX7, SX8, SU0, SY0, SY1, Nat.reduceAdd, Nat.reduceMul, Nat.reduceSub, Nat.reduceLeDiff, Nat.reduceEqDiff, Nat.reduceLT, Nat.reduceBEq, ↓reduceIte, Int.reduceLE, Int.reduceLT, Int.reduceToNat, Int.reduceNeg, reduceCtorEq, Int.reduceEq, SF0, SF1, SF2, DCg0, DCe0, DCe1, DCe2, DDb0, DBc0, DBc1, DHb0, DHb1, DHa0, DDe0]
      refine ⟨(S ++ [q.1], p1 + 1), ⟨by simp; omega, by simp only []; omega, by simp; omega⟩, by simp; omega, ?_⟩
      (refine wk_le ?_ ?_ ?_; (focus (simp [W8, leTm, leAV, AV.under, underL, rdr, Plan.under]; done)); (focus (simp [leL, OB.under, underL, AV.under, rdr, Plan.under]; done)); (focus (simp; done)))
  · simp (disch := omega) only [SX0, SX1, SX2, SX3, SX4, SX5, SX6, SX7, SX8, SU0, SY0, SY1, Nat.reduceAdd, Nat.reduceMul, Nat.reduceSub, Nat.reduceLeDiff, Nat.reduceEqDiff, Nat.reduceLT, Nat.reduceBEq, ↓reduceIte, Int.reduceLE, Int.reduceLT, Int.reduceToNat, Int.reduceNeg, reduceCtorEq, Int.reduceEq, SF0, SF1, SF2, DCg0, DCe0, DCe1, DCe2, DDb0, DBc0, DBc1, DHb0, DHb1, DHa0, DDe0]
    exact fin_ks [0, 2] (.os 1 1 0 S.length) [rdr xs p1, .vec 1 (ints S)] ⟨S, p1, rfl, rfl, by omega, by omega, by omega⟩ (by simp [AV.ren, nameK]) (by simp [keepL, nameK, OB.ren, rdr, ints, AV.ren]) (by simp) (by simp) (by simp)

theorem fin_ints {xs : List Int} {p : Int} {R : AV → List OB → Prop} {s : AS} {r n : Nat} {S : List Int} {es : List (List AV)} (hr : r ≠ 0) (hL : s.L[r]? = some (.vec 1 es)) (he : es = ints S) (hn : n = S.length) (h0 : s.L[0]? = some (rdr xs p)) (hR : R (.sl (ints S)) [rdr xs p]) : Fin [0] 1 R s (.os r 1 0 n) := by
  subst he
  subst hn
  refine fin_frz hL (by simp [hr]) ?_
  simp only [AV.frz, if_true, Nat.zero_add, true_and, ints_len, Nat.le_refl, List.drop_zero]
  rw [List.take_of_length_le (by simp [ints])]
  refine fin_zero (.sl (ints S)) (rdr xs p) hR rfl ?_ (by simp) (by simp)
  simp [AS.frz, List.getElem?_set, hr, h0, rdr, OB.frz, AV.frz, OB.ren, AV.ren]

theorem e_anySteps : Enters Try.prog 106 := enters_of Try.func106 (by kernel_rfl) (by kernel_rfl)
set_option maxRecDepth 8000 in
set_option maxHeartbeats 4000000 in
theorem anySteps_c (xs : List Int) (p0 : Int) (hx : ∀ x ∈ xs, 0 ≤ x ∧ x < 256) (hl : xs.length ≤ 2000) (hp : 0 ≤ p0 ∧ p0 ≤ 900000000) (p : Plan) : ACalls Try.prog 106 [.ptr 0 0, .agg p.cs] [rdr xs p0] [0] (fun r L => ∃ (S : List Int) (p' : Int), r = .sl (ints S) ∧ L = [rdr xs p'] ∧ S.length ≤ 300 ∧ p0 ≤ p' ∧ p' ≤ p0 + 300) := by
  refine acalls_tm T_tt Try.func106 rfl e_anySteps 43 rfl (W8 _ _ .any .any .any .any .any .any (W8 .any .any .any .any .any .any .any .any (W8 .any .any .any .any .any .any .any .any (W8 .any .any .any .any .any .any .any .any (W8 .any .any .any .any .any .any .any .any [.any, .any, .any, .any, .any]))))) rfl (rv := [.tmp 4]) rfl (sx_sound (bl := []) T_tt _ _ _ ?_)
  simp (disch := omega) only [SX0, SX1, SX2, SX3, SX4, SX5, SX6, SX7, SX8, SU0, SY0, SY1, Nat.reduceAdd, Nat.reduceMul, Nat.reduceSub, Nat.reduceLeDiff, Nat.reduceEqDiff, Nat.reduceLT, Nat.reduceBEq, ↓reduceIte, Int.reduceLE, Int.reduceLT, Int.reduceToNat, Int.reduceNeg, reduceCtorEq, Int.reduceEq, SF0, SF1, SF2, DCg0, DCe0, DCe1, DCe2, DDb0, DBc0, DBc1, DHb0, DHb1, DHa0, DDe0]
  refine acall_one (planSizeS_c p) (by simp [freeL, AV.free, Plan.free]) rfl ?_
  simp (disch := omega) only [SX0, SX1, SX2, SX3, SX4, SX5, SX6, SX7, SX8, SU0, SY0, SY1, Nat.reduceAdd, Nat.reduceMul, Nat.reduceSub, Nat.reduceLeDiff, Nat.reduceEqDiff, Nat.reduceLT, Nat.reduceBEq, ↓reduceIte, Int.reduceLE, Int.reduceLT, Int.reduceToNat, Int.reduceNeg, reduceCtorEq, Int.reduceEq, SF0, SF1, SF2, DCg0, DCe0, DCe1, DCe2, DDb0, DBc0, DBc1, DHb0, DHb1, DHa0, DDe0]
  refine br_dec (fun h1 => ?_) (fun h1 => ?_)
  · simp (disch := omega) only [SX0, SX1, SX2, SX3, SX4, SX5, SX6, SX7, SX8, SU0, SY0, SY1, Nat.reduceAdd, Nat.reduceMul, Nat.reduceSub, Nat.reduceLeDiff, Nat.reduceEqDiff, Nat.reduceLT, Nat.reduceBEq, ↓reduceIte, Int.reduceLE, Int.reduceLT, Int.reduceToNat, Int.reduceNeg, reduceCtorEq, Int.reduceEq, SF0, SF1, SF2, DCg0, DCe0, DCe1, DCe2, DDb0, DBc0, DBc1, DHb0, DHb1, DHa0, DDe0]
    exact fin_zero (.sl (ints [0])) (rdr xs p0) ⟨[0], p0, rfl, rfl, by simp, by omega, by omega⟩ rfl (by rw [rdr_ren]; rfl) (by simp) (by simp)
  have hs := Plan.size_pos (p := p) (by omega)
  simp (disch := omega) only [SX0, SX1, SX2, SX3, SX4, SX5, SX6, SX7, SX8, SU0, SY0, SY1, Nat.reduceAdd, Nat.reduceMul, Nat.reduceSub, Nat.reduceLeDiff, Nat.reduceEqDiff, Nat.reduceLT, Nat.reduceBEq, ↓reduceIte, Int.reduceLE, Int.reduceLT, Int.reduceToNat, Int.reduceNeg, reduceCtorEq, Int.reduceEq, SF0, SF1, SF2, DCg0, DCe0, DCe1, DCe2, DDb0, DBc0, DBc1, DHb0, DHb1, DHa0, DDe0]
  refine acall_own (someSteps_c xs p0 hx hl hp p hs.1) [0] [] (by simp only [SX0, SX1, SX2, SX3, SX4, SX5, SX6, SX7, SX8, SU0, SY0, SY1, Nat.reduceAdd, Nat.reduceMul, Nat.reduceSub, Nat.reduceLeDiff, Nat.reduceEqDiff, Nat.reduceLT, Nat.reduceBEq, ↓reduceIte, Int.reduceLE, Int.reduceLT, Int.reduceToNat, Int.reduceNeg, reduceCtorEq, Int.reduceEq, SF0, SF1, SF2, DCg0, DCe0, DCe1, DCe2, DDb0, DBc0, DBc1, DHb0, DHb1, DHa0, DDe0, SX0]) (by decide) (by decide) (by rfl) (by simp only [SX0, SX1, SX2, SX3, SX4, SX5, SX6, SX7, SX8, SU0, SY0, SY1, Nat.reduceAdd, Nat.reduceMul, Nat.reduceSub, Nat.reduceLeDiff, Nat.reduceEqDiff, Nat.reduceLT, Nat.reduceBEq, ↓reduceIte, Int.reduceLE, Int.reduceLT, Int.reduceToNat, Int.reduceNeg, reduceCtorEq, Int.reduceEq, SF0, SF1, SF2, DCg0, DCe0, DCe1, DCe2, DDb0, DBc0, DBc1, DHb0, DHb1, DHa0, DDe0, SX0]) ?_
  rintro _ _ ⟨S, p1, rfl, rfl, hS, hp1, hp2⟩
  simp (disch := omega) only [SX0, SX1, SX2, SX3, SX4, SX5, SX6, SX7, SX8, SU0, SY0, SY1, Nat.reduceAdd, Nat.reduceMul, Nat.reduceSub, Nat.reduceLeDiff, Nat.reduceEqDiff, Nat.reduceLT, Nat.reduceBEq, ↓reduceIte, Int.reduceLE, Int.reduceLT, Int.reduceToNat, Int.reduceNeg, reduceCtorEq, Int.reduceEq, SF0, SF1, SF2, DCg0, DCe0, DCe1, DCe2, DDb0, DBc0, DBc1, DHb0, DHb1, DHa0, DDe0]
  refine br_dec (fun h2 => ?_) (fun h2 => ?_)
  · simp (disch := omega) only [SX0, SX1, SX2, SX3, SX4, SX5, SX6, SX7, SX8, SU0, SY0, SY1, Nat.reduceAdd, Nat.reduceMul, Nat.reduceSub, Nat.reduceLeDiff, Nat.reduceEqDiff, Nat.reduceLT, Nat.reduceBEq, ↓reduceIte, Int.reduceLE, Int.reduceLT, Int.reduceToNat, Int.reduceNeg, reduceCtorEq, Int.reduceEq, SF0, SF1, SF2, DCg0, DCe0, DCe1, DCe2, DDb0, DBc0, DBc1, DHb0, DHb1, DHa0, DDe0]
    refine pick_call hx hl (by omega) rfl fun c hc1 hc2 hc3 => ?_
    have hc2 := hc2 (by omega)
    obtain ⟨s0, hs0⟩ := get_lt (l := S) (i := 0) (by omega)
    obtain ⟨s1, hs1⟩ := get_lt (l := S) (i := S.length - 1) (by omega)
    obtain ⟨s2, hs2⟩ := get_lt (l := S) (i := 1) (by omega)
    simp (disch := omega) only [SX0, SX1, SX2, SX3, SX4, SX5, SX6, SX7, SX8, SU0, SY0, SY1, Nat.reduceAdd, Nat.reduceMul, Nat.reduceSub, Nat.reduceLeDiff, Nat.reduceEqDiff, Nat.reduceLT, Nat.reduceBEq, ↓reduceIte, Int.reduceLE, Int.reduceLT, Int.reduceToNat, Int.reduceNeg, reduceCtorEq, Int.reduceEq, SF0, SF1, SF2, DCg0, DCe0, DCe1, DCe2, DDb0, DBc0, DBc1, DHb0, DHb1, DHa0, DDe0]
    refine br_dec (fun h3 => ?_) (fun h3 => ?_)
    · simp (disch := omega) only [SX0, SX1, SX2, SX3, SX4, SX5, SX6, SX7, SX8, SU0, SY0, SY1, Nat.reduceAdd, Nat.reduceMul, Nat.reduceSub, Nat.reduceLeDiff, Nat.reduceEqDiff, Nat.reduceLT, Nat.reduceBEq, ↓reduceIte, Int.reduceLE, Int.reduceLT, Int.reduceToNat, Int.reduceNeg, reduceCtorEq, Int.reduceEq, SF0, SF1, SF2, DCg0, DCe0, DCe1, DCe2, DDb0, DBc0, DBc1, DHb0, DHb1, DHa0, DDe0]
      refine req (by omega) ?_
      simp (disch := omega) only [SX0, SX1, SX2, SX3, SX4, SX5, SX6, SX7, SX8, SU0, SY0, SY1, Nat.reduceAdd, Nat.reduceMul, Nat.reduceSub, Nat.reduceLeDiff, Nat.reduceEqDiff, Nat.reduceLT, Nat.reduceBEq, ↓reduceIte, Int.reduceLE, Int.reduceLT, Int.reduceToNat, Int.reduceNeg, reduceCtorEq, Int.reduceEq, SF0, SF1, SF2, DCg0, DCe0, DCe1, DCe2, DDb0, DBc0, DBc1, DHb0, DHb1, DHa0, DDe0, hs0]
      refine req (by omega) ?_
      simp (disch := omega) only [SX0, SX1, SX2, SX3, SX4, SX5, SX6, SX7, SX8, SU0, SY0, SY1, Nat.reduceAdd, Nat.reduceMul, Nat.reduceSub, Nat.reduceLeDiff, Nat.reduceEqDiff, Nat.reduceLT, Nat.reduceBEq, ↓reduceIte, Int.reduceLE, Int.reduceLT, Int.reduceToNat, Int.reduceNeg, reduceCtorEq, Int.reduceEq, SF0, SF1, SF2, DCg0, DCe0, DCe1, DCe2, DDb0, DBc0, DBc1, DHb0, DHb1, DHa0, DDe0, hs0, hs2]
      exact fin_ints (S := S.set 1 s0) (by omega) rfl (by simp [ints, List.map_set]) (by simp) rfl ⟨S.set 1 s0, p1 + 1, rfl, rfl, by simp; omega, by omega, by omega⟩
    simp (disch := omega) only [SX0, SX1, SX2, SX3, SX4, SX5, SX6, SX7, SX8, SU0, SY0, SY1, Nat.reduceAdd, Nat.reduceMul, Nat.reduceSub, Nat.reduceLeDiff, Nat.reduceEqDiff, Nat.reduceLT, Nat.reduceBEq, ↓reduceIte, Int.reduceLE, Int.reduceLT, Int.reduceToNat, Int.reduceNeg, reduceCtorEq, Int.reduceEq, SF0, SF1, SF2, DCg0, DCe0, DCe1, DCe2, DDb0, DBc0, DBc1, DHb0, DHb1, DHa0, DDe0]
    refine br_dec (fun h4 => ?_) (fun h4 => ?_)
    · have e1 : ((S.length : Int) - 1).toNat = S.length - 1 := by omega
      simp (disch := omega) only [SX0, SX1, SX2, SX3, SX4, SX5, SX6, SX7, SX8, SU0, SY0, SY1, Nat.reduceAdd, Nat.reduceMul, Nat.reduceSub, Nat.reduceLeDiff, Nat.reduceEqDiff, Nat.reduceLT, Nat.reduceBEq, ↓reduceIte, Int.reduceLE, Int.reduceLT, Int.reduceToNat, Int.reduceNeg, reduceCtorEq, Int.reduceEq, SF0, SF1, SF2, DCg0, DCe0, DCe1, DCe2, DDb0, DBc0, DBc1, DHb0, DHb1, DHa0, DDe0]
      refine req (by omega) ?_
      simp (disch := omega) only [SX0, SX1, SX2, SX3, SX4, SX5, SX6, SX7, SX8, SU0, SY0, SY1, Nat.reduceAdd, Nat.reduceMul, Nat.reduceSub, Nat.reduceLeDiff, Nat.reduceEqDiff, Nat.reduceLT, Nat.reduceBEq, ↓reduceIte, Int.reduceLE, Int.reduceLT, Int.reduceToNat, Int.reduceNeg, reduceCtorEq, Int.reduceEq, SF0, SF1, SF2, DCg0, DCe0, DCe1, DCe2, DDb0, DBc0, DBc1, DHb0, DHb1, DHa0, DDe0, hs1, e1]
      refine req (by omega) ?_
      simp (disch := omega) only [SX0, SX1, SX2, SX3, SX4, SX5, SX6, SX7, SX8, SU0, SY0, SY1, Nat.reduceAdd, Nat.reduceMul, Nat.reduceSub, Nat.reduceLeDiff, Nat.reduceEqDiff, Nat.reduceLT, Nat.reduceBEq, ↓reduceIte, Int.reduceLE, Int.reduceLT, Int.reduceToNat, Int.reduceNeg, reduceCtorEq, Int.reduceEq, SF0, SF1, SF2, DCg0, DCe0, DCe1, DCe2, DDb0, DBc0, DBc1, DHb0, DHb1, DHa0, DDe0, hs1]
      refine req (by omega) ?_
      simp (disch := omega) only [SX0, SX1, SX2, SX3, SX4, SX5, SX6, SX7, SX8, SU0, SY0, SY1, Nat.reduceAdd, Nat.reduceMul, Nat.reduceSub, Nat.reduceLeDiff, Nat.reduceEqDiff, Nat.reduceLT, Nat.reduceBEq, ↓reduceIte, Int.reduceLE, Int.reduceLT, Int.reduceToNat, Int.reduceNeg, reduceCtorEq, Int.reduceEq, SF0, SF1, SF2, DCg0, DCe0, DCe1, DCe2, DDb0, DBc0, DBc1, DHb0, DHb1, DHa0, DDe0, hs0, hs1]
      exact fin_ints (S := S.set 0 s1) (by omega) rfl (by simp [ints, List.map_set]) (by simp) rfl ⟨S.set 0 s1, p1 + 1, rfl, rfl, by simp; omega, by omega, by omega⟩
    simp (disch := omega) only [SX0, SX1, SX2, SX3, SX4, SX5, SX6, SX7, SX8, SU0, SY0, SY1, Nat.reduceAdd, Nat.reduceMul, Nat.reduceSub, Nat.reduceLeDiff, Nat.reduceEqDiff, Nat.reduceLT, Nat.reduceBEq, ↓reduceIte, Int.reduceLE, Int.reduceLT, Int.reduceToNat, Int.reduceNeg, reduceCtorEq, Int.reduceEq, SF0, SF1, SF2, DCg0, DCe0, DCe1, DCe2, DDb0, DBc0, DBc1, DHb0, DHb1, DHa0, DDe0]
    refine br_dec (fun h5 => ?_) (fun h5 => ?_)
    · simp (disch := omega) only [SX0, SX1, SX2, SX3, SX4, SX5, SX6, SX7, SX8, SU0, SY0, SY1, Nat.reduceAdd, Nat.reduceMul, Nat.reduceSub, Nat.reduceLeDiff, Nat.reduceEqDiff, Nat.reduceLT, Nat.reduceBEq, ↓reduceIte, Int.reduceLE, Int.reduceLT, Int.reduceToNat, Int.reduceNeg, reduceCtorEq, Int.reduceEq, SF0, SF1, SF2, DCg0, DCe0, DCe1, DCe2, DDb0, DBc0, DBc1, DHb0, DHb1, DHa0, DDe0]
      refine awp_draw_lit (bl := []) T_tt mixed 5 (by decide) (by kernel_rfl) ⟨by kernel_rfl, by kernel_rfl⟩ (by kernel_rfl) ?_
      simp (disch := omega) only [SX0, SX1, SX2, SX3, SX4, SX5, SX6, SX7, SX8, SU0, SY0, SY1, Nat.reduceAdd, Nat.reduceMul, Nat.reduceSub, Nat.reduceLeDiff, Nat.reduceEqDiff, Nat.reduceLT, Nat.reduceBEq, ↓reduceIte, Int.reduceLE, Int.reduceLT, Int.reduceToNat, Int.reduceNeg, reduceCtorEq, Int.reduceEq, SF0, SF1, SF2, DCg0, DCe0, DCe1, DCe2, DDb0, DBc0, DBc1, DHb0, DHb1, DHa0, DDe0]
      refine req (by omega) ?_
      simp (disch := omega) only [SX0, SX1, SX2, SX3, SX4, SX5, SX6, SX7, SX8, SU0, SY0, SY1, Nat.reduceAdd, Nat.reduceMul, Nat.reduceSub, Nat.reduceLeDiff, Nat.reduceEqDiff, Nat.reduceLT, Nat.reduceBEq, ↓reduceIte, Int.reduceLE, Int.reduceLT, Int.reduceToNat, Int.reduceNeg, reduceCtorEq, Int.reduceEq, SF0, SF1, SF2, DCg0, DCe0, DCe1, DCe2, DDb0, DBc0, DBc1, DHb0, DHb1, DHa0, DDe0]
      refine req (by omega) ?_
      simp (disch := omega) only [SX0, SX1, SX2, SX3, SX4, SX5, SX6, SX7, SX8, SU0, SY0, SY1, Nat.reduceAdd, Nat.reduceMul, Nat.reduceSub, Nat.reduceLeDiff, Nat.reduceEqDiff, Nat.reduceLT, Nat.reduceBEq, ↓reduceIte, Int.reduceLE, Int.reduceLT, Int.reduceToNat, Int.reduceNeg, reduceCtorEq, Int.reduceEq, SF0, SF1, SF2, DCg0, DCe0, DCe1, DCe2, DDb0, DBc0, DBc1, DHb0, DHb1, DHa0, DDe0, hs0]
      refine ⟨rfl, ?_⟩
      simp (disch := omega) only [SX0, SX1, SX2, SX3, SX4, SX5, SX6, SX7, SX8, SU0, SY0, SY1, Nat.reduceAdd, Nat.reduceMul, Nat.reduceSub, Nat.reduceLeDiff, Nat.reduceEqDiff, Nat.reduceLT, Nat.reduceBEq, ↓reduceIte, Int.reduceLE, Int.reduceLT, Int.reduceToNat, Int.reduceNeg, reduceCtorEq, Int.reduceEq, SF0, SF1, SF2, DCg0, DCe0, DCe1, DCe2, DDb0, DBc0, DBc1, DHb0, DHb1, DHa0, DDe0, SX0]
      refine req (by omega) ?_
      simp (disch := omega) only [SX0, SX1, SX2, SX3, SX4, SX5, SX6, SX7, SX8, SU0, SY0, SY1, Nat.reduceAdd, Nat.reduceMul, Nat.reduceSub, Nat.reduceLeDiff, Nat.reduceEqDiff, Nat.reduceLT, Nat.reduceBEq, ↓reduceIte, Int.reduceLE, Int.reduceLT, Int.reduceToNat, Int.reduceNeg, reduceCtorEq, Int.reduceEq, SF0, SF1, SF2, DCg0, DCe0, DCe1, DCe2, DDb0, DBc0, DBc1, DHb0, DHb1, DHa0, DDe0]
      exact fin_ints (S := S.drop 1 ++ [s0]) (by omega) rfl (by simp [ints]) (by simp) rfl ⟨S.drop 1 ++ [s0], p1 + 1, rfl, rfl, by simp; omega, by omega, by omega⟩
    · simp (disch := omega) only [SX0, SX1, SX2, SX3, SX4, SX5, SX6, SX7, SX8, SU0, SY0, SY1, Nat.reduceAdd, Nat.reduceMul, Nat.reduceSub, Nat.reduceLeDiff, Nat.reduceEqDiff, Nat.reduceLT, Nat.reduceBEq, ↓reduceIte, Int.reduceLE, Int.reduceLT, Int.reduceToNat, Int.reduceNeg, reduceCtorEq, Int.reduceEq, SF0, SF1, SF2, DCg0, DCe0, DCe1, DCe2, DDb0, DBc0, DBc1, DHb0, DHb1, DHa0, DDe0]
      exact fin_ints (S := S) (by omega) rfl rfl rfl rfl ⟨S, p1 + 1, rfl, rfl, by omega, by omega, by omega⟩
  · simp (disch := omega) only [SX0, SX1, SX2, SX3, SX4, SX5, SX6, SX7, SX8, SU0, SY0, SY1, Nat.reduceAdd, Nat.reduceMul, Nat.reduceSub, Nat.reduceLeDiff, Nat.reduceEqDiff, Nat.reduceLT, Nat.reduceBEq, ↓reduceIte, Int.reduceLE, Int.reduceLT, Int.reduceToNat, Int.reduceNeg, reduceCtorEq, Int.reduceEq, SF0, SF1, SF2, DCg0, DCe0, DCe1, DCe2, DDb0, DBc0, DBc1, DHb0, DHb1, DHa0, DDe0]
    exact fin_ints (S := S) (by omega) rfl rfl rfl rfl ⟨S, p1, rfl, rfl, by omega, by omega, by omega⟩

end Go.Pc
