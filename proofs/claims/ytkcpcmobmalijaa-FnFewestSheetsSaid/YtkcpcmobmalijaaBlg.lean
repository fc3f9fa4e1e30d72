/- What sets of panes can be cut: the reference's looks at one pane and at two parts. -/
import Derived.Test.YtkcpcmobmalijaaBlf
import Derived.Test.YtkcpcmobmalijaaBsi
set_option linter.unusedSimpArgs false
set_option linter.unusedVariables false
namespace Go.Pc
open Go Go.Proofs

/-- Glass that a set's only pane fills. -/
def onlyP (k : Work) (S w h : Nat) : Prop := ∃ i q, S = 2 ^ i ∧ k.Ps[i]? = some q ∧ ((q.W = (w : Int) ∧ q.H = (h : Int)) ∨ (q.Tu = true ∧ q.W ≠ q.H ∧ q.H = (w : Int) ∧ q.W = (h : Int)))
theorem Work.nrmB (k : Work) : nrmL k.cs = k.cs := by simp only [Work.cs, nrmL, AV.nrm]
theorem fills_iff {k : Work} {i : Nat} {q : Pane} (hq : k.Ps[i]? = some q) (w h : Int) : (fills k i false w h = true ∨ fills k i true w h = true) ↔ ((q.W = w ∧ q.H = h) ∨ (q.Tu = true ∧ q.W ≠ q.H ∧ q.H = w ∧ q.W = h)) := by
  have h1 := fills_in (k := k) (pa := (i : Int)) (q := q) (by simpa using hq) (by omega) false w h
  have h2 := fills_in (k := k) (pa := (i : Int)) (q := q) (by simpa using hq) (by omega) true w h
  rw [h1, h2]
  simp [and_assoc]

theorem e_onlyPaneS : Enters Try.prog 157 := enters_of Try.func157 (by kernel_rfl) (by kernel_rfl)
set_option maxHeartbeats 2000000 in
theorem onlyPaneS_c (k : Work) (hk : k.Ps.length ≤ 4) (S w h : Nat) (hS : S < 16) (hw : w ≤ 16) (hh : h ≤ 16) (b : Bool) (hb : b = true ↔ onlyP k S w h) : ACalls Try.prog 157 [.agg k.cs, .val (.int .i64 S), .val (.int .i64 w), .val (.int .i64 h)] [] [] (fun r L => r = .val (.bool b) ∧ L = []) := by
  refine acalls_tm T_tt Try.func157 rfl e_onlyPaneS 31 rfl (W8 _ _ _ _ .any .any .any .any (W8 .any .any .any .any .any .any .any .any (W8 .any .any .any .any .any .any .any .any (W8 .any .any .any .any .any .any .any .any [.any, .any, .any])))) rfl (rv := [.tmp 8]) rfl (sx_sound (bl := []) T_tt _ _ _ ?_)
  simp (disch := omega) only [SX0, SX1, SX2, SX3, SX4, SX5, SX6, SX7, SX8, SU0, SY0, SY1, Nat.reduceAdd, Nat.reduceMul, Nat.reduceSub, Nat.reduceLeDiff, Nat.reduceEqDiff, Nat.reduceLT, Nat.reduceBEq, ↓reduceIte, Int.reduceLE, Int.reduceLT, Int.reduceToNat, Int.reduceNeg, reduceCtorEq, Int.reduceEq, SF0, SF1, SF2, DBka0, DAlh0, DHb0, DHb1, DHa0, DCg0, DCe0, DCe1, DCe2, DDb0, DBc0, DBc1, DDe0, DAlv0, DBla0]
  with_reducible refine awp_loop_h (G := Nat) 10 25 (fun i => [(9, .val (.int .i64 i))]) (fun _ => [.cells k.cs]) (fun i => i ≤ k.Ps.length ∧ ∀ i', i' < i → S ≠ 2 ^ i') (fun i => k.Ps.length - i) 0 ⟨Nat.zero_le _, fun i' h => absurd h (Nat.not_lt_zero _)⟩ ?_ (fun i hi => sx_sound (bl := []) T_tt _ _ _ ?_)
  · simp (disch := omega) only [SX0, SX1, SX2, SX3, SX4, SX5, SX6, SX7, SX8, SU0, SY0, SY1, Nat.reduceAdd, Nat.reduceMul, Nat.reduceSub, Nat.reduceLeDiff, Nat.reduceEqDiff, Nat.reduceLT, Nat.reduceBEq, ↓reduceIte, Int.reduceLE, Int.reduceLT, Int.reduceToNat, Int.reduceNeg, reduceCtorEq, Int.reduceEq, SF0, SF1, SF2, DBka0, DAlh0, DHb0, DHb1, DHa0, DCg0, DCe0, DCe1, DCe2, DDb0, DBc0, DBc1, DDe0, DAlv0, DBla0]
    (refine wk_le ?_ ?_ ?_; (focus (simp [W8, leTm, leAV, AV.under, underL, Work.under]; done)); (focus (simp [leL, OB.under, underL, AV.under, Work.under]; done)); (focus (simp; done)))
  simp (disch := omega) only [SX0, SX1, SX2, SX3, SX4, SX5, SX6, SX7, SX8, SU0, SY0, SY1, Nat.reduceAdd, Nat.reduceMul, Nat.reduceSub, Nat.reduceLeDiff, Nat.reduceEqDiff, Nat.reduceLT, Nat.reduceBEq, ↓reduceIte, Int.reduceLE, Int.reduceLT, Int.reduceToNat, Int.reduceNeg, reduceCtorEq, Int.reduceEq, SF0, SF1, SF2, DBka0, DAlh0, DHb0, DHb1, DHa0, DCg0, DCe0, DCe1, DCe2, DDb0, DBc0, DBc1, DDe0, DAlv0, DBla0]
  refine br_dec (fun h1 => ?_) (fun h1 => ?_)
  · obtain ⟨q, hq⟩ := get_lt (l := k.Ps) (i := i) (by omega)
    have hI2 : 2 ^ i ≤ 2 ^ 4 := Nat.pow_le_pow_right (by omega) (by omega)
    simp (disch := omega) only [SX0, SX1, SX2, SX3, SX4, SX5, SX6, SX7, SX8, SU0, SY0, SY1, Nat.reduceAdd, Nat.reduceMul, Nat.reduceSub, Nat.reduceLeDiff, Nat.reduceEqDiff, Nat.reduceLT, Nat.reduceBEq, ↓reduceIte, Int.reduceLE, Int.reduceLT, Int.reduceToNat, Int.reduceNeg, reduceCtorEq, Int.reduceEq, SF0, SF1, SF2, DBka0, DAlh0, DHb0, DHb1, DHa0, DCg0, DCe0, DCe1, DCe2, DDb0, DBc0, DBc1, DDe0, DAlv0, DBla0]
    refine acall_one (powerS_c i (by omega)) rfl rfl ?_
    simp (disch := omega) only [SX0, SX1, SX2, SX3, SX4, SX5, SX6, SX7, SX8, SU0, SY0, SY1, Nat.reduceAdd, Nat.reduceMul, Nat.reduceSub, Nat.reduceLeDiff, Nat.reduceEqDiff, Nat.reduceLT, Nat.reduceBEq, ↓reduceIte, Int.reduceLE, Int.reduceLT, Int.reduceToNat, Int.reduceNeg, reduceCtorEq, Int.reduceEq, SF0, SF1, SF2, DBka0, DAlh0, DHb0, DHb1, DHa0, DCg0, DCe0, DCe1, DCe2, DDb0, DBc0, DBc1, DDe0, DAlv0, DBla0]
    refine br_dec (fun h2 => ?_) (fun h2 => ?_)
    · have hSe : S = 2 ^ i := by omega
      have F1 := fitsS_c k (by omega) (.mk 1 0 i false []) w h (wf_paneB i) (by omega) (by omega)
      have wf2 : (Plan.mk 1 0 i true []).wf = true := by
        rw [Plan.wf_iff]
        refine ⟨?_, fun q hq => by simp [Plan.ks] at hq⟩
        simp [Plan.good, Plan.cut, Plan.op, Plan.ks, Plan.at_]
      have F2 := fitsS_c k (by omega) (.mk 1 0 i true []) w h wf2 (by omega) (by omega)
      rw [Plan.fits_pane k _ _ _ rfl, Plan.cs_eq] at F1 F2
      simp only [Plan.pa, Plan.tu, Plan.op, Plan.at_, Plan.ks, List.map_nil] at F1 F2
      have hfi := fills_iff hq (w : Int) (h : Int)
      have hon : onlyP k S w h ↔ (fills k i false w h = true ∨ fills k i true w h = true) := by
        rw [hfi]
        refine ⟨fun ⟨j, q', e, hq', hx⟩ => ?_, fun hx => ⟨i, q, hSe, hq, hx⟩⟩
        have : i = j := pow_inj2 (by omega)
        subst this
        rw [hq] at hq'
        cases hq'
        exact hx
      rw [hon] at hb
      generalize fills k i false w h = b1 at *
      generalize fills k i true w h = b2 at *
      simp (disch := omega) only [SX0, SX1, SX2, SX3, SX4, SX5, SX6, SX7, SX8, SU0, SY0, SY1, Nat.reduceAdd, Nat.reduceMul, Nat.reduceSub, Nat.reduceLeDiff, Nat.reduceEqDiff, Nat.reduceLT, Nat.reduceBEq, ↓reduceIte, Int.reduceLE, Int.reduceLT, Int.reduceToNat, Int.reduceNeg, reduceCtorEq, Int.reduceEq, SF0, SF1, SF2, DBka0, DAlh0, DHb0, DHb1, DHa0, DCg0, DCe0, DCe1, DCe2, DDb0, DBc0, DBc1, DDe0, DAlv0, DBla0]
      refine acall_nrm ?_
      simp only [List.map_cons, List.map_nil, AV.nrm, nrmL, Work.nrmB]
      refine acall_one F1 (by simp [freeL, AV.free, Work.free]) rfl ?_
      simp (disch := omega) only [SX0, SX1, SX2, SX3, SX4, SX5, SX6, SX7, SX8, SU0, SY0, SY1, Nat.reduceAdd, Nat.reduceMul, Nat.reduceSub, Nat.reduceLeDiff, Nat.reduceEqDiff, Nat.reduceLT, Nat.reduceBEq, ↓reduceIte, Int.reduceLE, Int.reduceLT, Int.reduceToNat, Int.reduceNeg, reduceCtorEq, Int.reduceEq, SF0, SF1, SF2, DBka0, DAlh0, DHb0, DHb1, DHa0, DCg0, DCe0, DCe1, DCe2, DDb0, DBc0, DBc1, DDe0, DAlv0, DBla0]
      refine br_bool (fun c1 => ?_) (fun c1 => ?_)
      · have : b = true := hb.2 (.inl c1)
        subst this
        simp (disch := omega) only [SX0, SX1, SX2, SX3, SX4, SX5, SX6, SX7, SX8, SU0, SY0, SY1, Nat.reduceAdd, Nat.reduceMul, Nat.reduceSub, Nat.reduceLeDiff, Nat.reduceEqDiff, Nat.reduceLT, Nat.reduceBEq, ↓reduceIte, Int.reduceLE, Int.reduceLT, Int.reduceToNat, Int.reduceNeg, reduceCtorEq, Int.reduceEq, SF0, SF1, SF2, DBka0, DAlh0, DHb0, DHb1, DHa0, DCg0, DCe0, DCe1, DCe2, DDb0, DBc0, DBc1, DDe0, DAlv0, DBla0]
        exact fin_val ⟨rfl, rfl⟩
      · simp (disch := omega) only [SX0, SX1, SX2, SX3, SX4, SX5, SX6, SX7, SX8, SU0, SY0, SY1, Nat.reduceAdd, Nat.reduceMul, Nat.reduceSub, Nat.reduceLeDiff, Nat.reduceEqDiff, Nat.reduceLT, Nat.reduceBEq, ↓reduceIte, Int.reduceLE, Int.reduceLT, Int.reduceToNat, Int.reduceNeg, reduceCtorEq, Int.reduceEq, SF0, SF1, SF2, DBka0, DAlh0, DHb0, DHb1, DHa0, DCg0, DCe0, DCe1, DCe2, DDb0, DBc0, DBc1, DDe0, DAlv0, DBla0]
        refine acall_nrm ?_
        simp only [List.map_cons, List.map_nil, AV.nrm, nrmL, Work.nrmB]
        refine acall_one F2 (by simp [freeL, AV.free, Work.free]) rfl ?_
        simp (disch := omega) only [SX0, SX1, SX2, SX3, SX4, SX5, SX6, SX7, SX8, SU0, SY0, SY1, Nat.reduceAdd, Nat.reduceMul, Nat.reduceSub, Nat.reduceLeDiff, Nat.reduceEqDiff, Nat.reduceLT, Nat.reduceBEq, ↓reduceIte, Int.reduceLE, Int.reduceLT, Int.reduceToNat, Int.reduceNeg, reduceCtorEq, Int.reduceEq, SF0, SF1, SF2, DBka0, DAlh0, DHb0, DHb1, DHa0, DCg0, DCe0, DCe1, DCe2, DDb0, DBc0, DBc1, DDe0, DAlv0, DBla0]
        have : b2 = b := by rw [Bool.eq_iff_iff, hb, c1]; simp
        rw [this]
        exact fin_val ⟨rfl, rfl⟩
    · simp (disch := omega) only [SX0, SX1, SX2, SX3, SX4, SX5, SX6, SX7, SX8, SU0, SY0, SY1, Nat.reduceAdd, Nat.reduceMul, Nat.reduceSub, Nat.reduceLeDiff, Nat.reduceEqDiff, Nat.reduceLT, Nat.reduceBEq, ↓reduceIte, Int.reduceLE, Int.reduceLT, Int.reduceToNat, Int.reduceNeg, reduceCtorEq, Int.reduceEq, SF0, SF1, SF2, DBka0, DAlh0, DHb0, DHb1, DHa0, DCg0, DCe0, DCe1, DCe2, DDb0, DBc0, DBc1, DDe0, DAlv0, DBla0]
      refine ⟨i + 1, ⟨by omega, fun i' hi' => ?_⟩, by omega, ?_⟩
      · by_cases e : i' = i
        · subst e; intro e2; exact h2 (by rw [e2])
        · exact hi.2 i' (by omega)
      (refine wk_le ?_ ?_ ?_; (focus (simp [W8, leTm, leAV, AV.under, underL, Work.under]; done)); (focus (simp [leL, OB.under, underL, AV.under, Work.under]; done)); (focus (simp; done)))
  · have hbf : b = false := by
      cases b with
      | false => rfl
      | true =>
        obtain ⟨i', q, e, hq, _⟩ := hb.1 rfl
        have := (List.getElem?_eq_some_iff.1 hq).1
        exact absurd e (hi.2 i' (by omega))
    subst hbf
    simp (disch := omega) only [SX0, SX1, SX2, SX3, SX4, SX5, SX6, SX7, SX8, SU0, SY0, SY1, Nat.reduceAdd, Nat.reduceMul, Nat.reduceSub, Nat.reduceLeDiff, Nat.reduceEqDiff, Nat.reduceLT, Nat.reduceBEq, ↓reduceIte, Int.reduceLE, Int.reduceLT, Int.reduceToNat, Int.reduceNeg, reduceCtorEq, Int.reduceEq, SF0, SF1, SF2, DBka0, DAlh0, DHb0, DHb1, DHa0, DCg0, DCe0, DCe1, DCe2, DDb0, DBc0, DBc1, DDe0, DAlv0, DBla0]
    exact fin_val ⟨rfl, rfl⟩

end Go.Pc
