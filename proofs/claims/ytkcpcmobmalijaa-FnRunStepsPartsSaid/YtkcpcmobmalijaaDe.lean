/- Plans that are grown at random. -/
import Derived.Test.YtkcpcmobmalijaaCg
set_option linter.unusedSimpArgs false
set_option linter.unusedVariables false
namespace Go.Pc
open Go Go.Proofs

/-- Numbers of a plan are small. -/
inductive Plan.Small : Plan → Prop
  | mk {op at_ pa : Int} {tu : Bool} {ks : List Plan} (h1 : -1000 ≤ op ∧ op ≤ 1000) (h2 : -1000 ≤ at_ ∧ at_ ≤ 1000) (h3 : -1000 ≤ pa ∧ pa ≤ 1000) (h4 : ks.length ≤ 2) (h5 : ∀ q ∈ ks, q.Small) : Small (.mk op at_ pa tu ks)

def Pane.Small (q : Pane) : Prop := (-1000 ≤ q.W ∧ q.W ≤ 1000) ∧ (-1000 ≤ q.H ∧ q.H ≤ 1000) ∧ (-1000 ≤ q.Ki ∧ q.Ki ≤ 1000)

/-- A work whose panes lie in an own row. -/
def wkc (W H : Int) (n : Nat) : OB := .cells [.val (.int .i64 W), .val (.int .i64 H), .os 2 4 0 n]

def picks : Nat → Int
  | 0 => 10
  | n + 1 => 10 + 2 * picks n

theorem fills_ext {W H W' H' : Int} {Ps E : List Pane} {pa : Int} {tu : Bool} {w h : Int} (hf : fills ⟨W, H, Ps⟩ pa tu w h = true) : fills ⟨W', H', Ps ++ E⟩ pa tu w h = true := by
  have h0 : 0 ≤ pa ∧ pa ≤ (Ps.length : Int) - 1 := Classical.byContradiction fun hn => by rw [fills_out ⟨W, H, Ps⟩ _ _ _ _ hn] at hf; cases hf
  obtain ⟨q, hq⟩ := get_lt (l := Ps) (i := pa.toNat) (by omega)
  rw [fills_in (k := ⟨W, H, Ps⟩) hq h0.1] at hf
  rw [fills_in (k := ⟨W', H', Ps ++ E⟩) (q := q) (by show (Ps ++ E)[pa.toNat]? = some q; rw [List.getElem?_append_left (by omega)]; exact hq) h0.1]
  exact hf

/-- A plan that is grown is one for its glass. -/
def GrownP (q : Plan) (Ps Ps' : List Pane) (w h : Int) (d : Nat) : Prop :=
  q.wf = true ∧ q.nodes + 1 ≤ 2 ^ (d + 1) ∧ (∃ t, Ps' = Ps ++ t ∧ (w ≤ 200 → h ≤ 200 → ∀ x ∈ t, x.ok)) ∧ ∀ (E : List Pane) (W H : Int), q.fits ⟨W, H, Ps' ++ E⟩ w h = true

theorem pow_two (d : Nat) : 2 ≤ 2 ^ (d + 1) := by
  have := Nat.pow_le_pow_right (n := 2) (by omega) (show 1 ≤ d + 1 by omega)
  omega
theorem GrownP.waste (Ps : List Pane) (w h : Int) (d : Nat) : GrownP (.mk 0 0 0 false []) Ps Ps w h d :=
  ⟨by decide, by have := pow_two d; have : (Plan.mk 0 0 0 false []).nodes = 1 := by decide
                 omega, ⟨[], by simp, by simp⟩, fun E W H => Plan.fits_else _ _ _ _ (by simp [Plan.op]) (by simp [Plan.op]) (by simp [Plan.op])⟩
theorem GrownP.pane {W0 H0 : Int} {Ps t : List Pane} {i : Int} {tu : Bool} {w h : Int} (d : Nat) (hf : fills ⟨W0, H0, Ps ++ t⟩ i tu w h = true) (ht : w ≤ 200 → h ≤ 200 → ∀ x ∈ t, x.ok) : GrownP (.mk 1 0 i tu []) Ps (Ps ++ t) w h d :=
  ⟨by simp [Plan.wf, Plan.wfL, Plan.good, Plan.cut, Plan.op, Plan.ks, Plan.at_], by have := pow_two d; have : (Plan.mk 1 0 i tu []).nodes = 1 := by rw [Plan.nodes_eq]; rfl
                                                                                    omega, ⟨t, rfl, ht⟩, fun E W H => by rw [Plan.fits_pane _ _ _ _ (by rfl)]; exact fills_ext hf⟩
theorem GrownP.down {x y : Plan} {Ps P1 P2 : List Pane} {w h a : Int} {d : Nat} (h0 : 0 < d) (ha : 1 ≤ a ∧ a ≤ w - 1) (h1 : GrownP x Ps P1 a h (d - 1)) (h2 : GrownP y P1 P2 (w - a) h (d - 1)) : GrownP (.mk 2 a 0 false [x, y]) Ps P2 w h d := by
  obtain ⟨w1, n1, ⟨t1, rfl, o1⟩, f1⟩ := h1
  obtain ⟨w2, n2, ⟨t2, rfl, o2⟩, f2⟩ := h2
  refine ⟨by simp [Plan.wf, Plan.wfL, Plan.good, Plan.cut, Plan.op, Plan.ks, Plan.at_, Plan.pa, Plan.tu, w1, w2], ?_, ⟨t1 ++ t2, by simp, fun hw hh z hz => ?_⟩, fun E W H => ?_⟩
  · have e : d - 1 + 1 = d := by omega
    rw [e] at n1 n2
    rw [Plan.nodes_two (x := x) (y := y) rfl, Nat.pow_succ]
    omega
  · rcases List.mem_append.1 hz with hz | hz
    · exact o1 (by omega) hh z hz
    · exact o2 (by omega) hh z hz
  · have g1 := f1 (t2 ++ E) W H
    rw [← List.append_assoc] at g1
    rw [Plan.fits_down _ _ x y _ _ rfl rfl, Plan.at_, g1, f2]
    simp; omega
theorem GrownP.across {x y : Plan} {Ps P1 P2 : List Pane} {w h a : Int} {d : Nat} (h0 : 0 < d) (ha : 1 ≤ a ∧ a ≤ h - 1) (h1 : GrownP x Ps P1 w a (d - 1)) (h2 : GrownP y P1 P2 w (h - a) (d - 1)) : GrownP (.mk 3 a 0 false [x, y]) Ps P2 w h d := by
  obtain ⟨w1, n1, ⟨t1, rfl, o1⟩, f1⟩ := h1
  obtain ⟨w2, n2, ⟨t2, rfl, o2⟩, f2⟩ := h2
  refine ⟨by simp [Plan.wf, Plan.wfL, Plan.good, Plan.cut, Plan.op, Plan.ks, Plan.at_, Plan.pa, Plan.tu, w1, w2], ?_, ⟨t1 ++ t2, by simp, fun hw hh z hz => ?_⟩, fun E W H => ?_⟩
  · have e : d - 1 + 1 = d := by omega
    rw [e] at n1 n2
    rw [Plan.nodes_two (x := x) (y := y) rfl, Nat.pow_succ]
    omega
  · rcases List.mem_append.1 hz with hz | hz
    · exact o1 hw (by omega) z hz
    · exact o2 hw (by omega) z hz
  · have g1 := f1 (t2 ++ E) W H
    rw [← List.append_assoc] at g1
    rw [Plan.fits_across _ _ x y _ _ rfl rfl, Plan.at_, g1, f2]
    simp; omega

/-- What grow leaves. -/
def Grown (xs : List Int) (p W H : Int) (Ps0 : List Pane) (w h : Int) (d : Nat) (r : AV) (L : List OB) : Prop :=
  ∃ (q : Plan) (p' : Int) (Ps : List Pane), r = .agg q.cs ∧ L = [rdr xs p', wkc W H Ps.length, .vec 4 (Ps.map Pane.cs)] ∧ q.Small ∧ (p ≤ p' ∧ p' ≤ p + picks d) ∧ Ps.length ≤ 24 ∧ (∀ q ∈ Ps, q.Small) ∧ GrownP q Ps0 Ps w h d

theorem picks_pos : ∀ d, 10 ≤ picks d
  | 0 => by simp [picks]
  | d + 1 => by have := picks_pos d; simp [picks]; omega
theorem picks_pred {d : Nat} (h : 0 < d) : picks d = 10 + 2 * picks (d - 1) := by
  cases d with
  | zero => omega
  | succ d => rfl
theorem wkc_len (W H : Int) (n : Nat) : wkc W H n = .cells [.val (.int .i64 W), .val (.int .i64 H), .os 2 4 0 n] := rfl
theorem rdr_x (xs : List Int) (p : Int) : rdr xs p = .cells [.sl (bys xs), .val (.int .i64 p)] := rfl

theorem DDe0 : type_of% @rdr_x ∧ type_of% @wkc_len := ⟨@rdr_x, @wkc_len⟩

theorem e_grow : Enters Try.prog 159 := enters_of Try.func159 (by kernel_rfl) (by kernel_rfl)
set_option maxRecDepth 8000 in
set_option maxHeartbeats 4000000 in
theorem grow_c (xs : List Int) (hx : ∀ x ∈ xs, 0 ≤ x ∧ x < 256) (hl : xs.length ≤ 2000) (W H : Int) : ∀ (d : Nat) (p w h : Int) (Ps : List Pane), 0 ≤ p ∧ p + picks d ≤ 1000000000 → (1 ≤ w ∧ w ≤ 1000) → (1 ≤ h ∧ h ≤ 1000) → Ps.length ≤ 24 → (∀ q ∈ Ps, q.Small) → d ≤ 10 →
    ACalls Try.prog 159 [.ptr 0 0, .ptr 1 0, .val (.int .i64 w), .val (.int .i64 h), .val (.int .i64 d)] [rdr xs p, wkc W H Ps.length, .vec 4 (Ps.map Pane.cs)] [0, 1] (Grown xs p W H Ps w h d) := by
  intro d
  induction d using Nat.strongRecOn with
  | _ d ih =>
  intro p w h Ps hp hw hh hPs hPq hd
  have hpk := picks_pos d
  refine acalls_tm T_tt Try.func159 rfl e_grow 173 rfl (W8 _ _ _ _ _ .any .any .any (W8 .any .any .any .any .any .any .any .any (W8 .any .any .any .any .any .any .any .any (W8 .any .any .any .any .any .any .any .any (W8 .any .any .any .any .any .any .any .any (W8 .any .any .any .any .any .any .any .any (W8 .any .any .any .any .any .any .any .any (W8 .any .any .any .any .any .any .any .any (W8 .any .any .any .any .any .any .any .any (W8 .any .any .any .any .any .any .any .any (W8 .any .any .any .any .any .any .any .any (W8 .any .any .any .any .any .any .any .any (W8 .any .any .any .any .any .any .any .any (W8 .any .any .any .any .any .any .any .any (W8 .any .any .any .any .any .any .any .any (W8 .any .any .any .any .any .any .any .any (W8 .any .any .any .any .any .any .any .any (W8 .any .any .any .any .any .any .any .any (W8 .any .any .any .any .any .any .any .any (W8 .any .any .any .any .any .any .any .any (W8 .any .any .any .any .any .any .any .any (W8 .any .any .any .any .any .any .any .any [.any, .any])))))))))))))))))))))) rfl (rv := [.cell 10 31]) rfl ?_
  refine awp_step (bl := []) T_tt ?_
  simp (disch := omega) only [SX0, SX1, SX2, SX3, SX4, SX5, SX6, SX7, SX8, SU0, SY0, SY1, Nat.reduceAdd, Nat.reduceMul, Nat.reduceSub, Nat.reduceLeDiff, Nat.reduceEqDiff, Nat.reduceLT, Nat.reduceBEq, ↓reduceIte, Int.reduceLE, Int.reduceLT, Int.reduceToNat, Int.reduceNeg, reduceCtorEq, Int.reduceEq, SF0, SF1, SF2, DCg0, DCe0, DCe1, DCe2, DDb0, DBc0, DBc1, DDe0]
  refine awp_step (bl := []) T_tt ?_
  simp (disch := omega) only [SX0, SX1, SX2, SX3, SX4, SX5, SX6, SX7, SX8, SU0, SY0, SY1, Nat.reduceAdd, Nat.reduceMul, Nat.reduceSub, Nat.reduceLeDiff, Nat.reduceEqDiff, Nat.reduceLT, Nat.reduceBEq, ↓reduceIte, Int.reduceLE, Int.reduceLT, Int.reduceToNat, Int.reduceNeg, reduceCtorEq, Int.reduceEq, SF0, SF1, SF2, DCg0, DCe0, DCe1, DCe2, DDb0, DBc0, DBc1, DDe0]
  refine pick_call hx hl (by omega) rfl fun c hc1 hc2 hc3 => ?_
  simp (disch := omega) only [SX0, SX1, SX2, SX3, SX4, SX5, SX6, SX7, SX8, SU0, SY0, SY1, Nat.reduceAdd, Nat.reduceMul, Nat.reduceSub, Nat.reduceLeDiff, Nat.reduceEqDiff, Nat.reduceLT, Nat.reduceBEq, ↓reduceIte, Int.reduceLE, Int.reduceLT, Int.reduceToNat, Int.reduceNeg, reduceCtorEq, Int.reduceEq, SF0, SF1, SF2, DCg0, DCe0, DCe1, DCe2, DDb0, DBc0, DBc1, DDe0]
  -- the cut from the top down
  refine awp_nest (awp_cut (bl := []) T_tt (G := Bool) (fun b => b = true → 0 < d ∧ 1 < w) 21 20 (fun b => [(40, .val (.bool b))]) (fun _ => [rdr xs (p + 1), wkc W H Ps.length, .vec 4 (Ps.map Pane.cs), .cells [.val (.int .i64 0), .val (.int .i64 0), .val (.int .i64 0), .val (.bool false), .val (.slice none 0 0)]]) ?_ fun b hb => ?_)
  · repeat' first | with_reducible refine fin_val ⟨?_, rfl⟩ | with_reducible refine br_dec (fun hb => ?_) (fun hb => ?_) | with_reducible refine br_ndec (fun hb => ?_) (fun hb => ?_) | with_reducible refine br_bool (fun hb => ?_) (fun hb => ?_) | with_reducible refine pk_dec (fun hb => ?_) (fun hb => ?_) | with_reducible refine pk_ndec (fun hb => ?_) (fun hb => ?_) | with_reducible refine awp_drawA T_tt mixed (by decide +kernel) (by kernel_rfl) (by kernel_rfl) ?_ | simp (disch := omega) only [SX0, SX1, SX2, SX3, SX4, SX5, SX6, SX7, SX8, SU0, SY0, SY1, Nat.reduceAdd, Nat.reduceMul, Nat.reduceSub, Nat.reduceLeDiff, Nat.reduceEqDiff, Nat.reduceLT, Nat.reduceBEq, ↓reduceIte, Int.reduceLE, Int.reduceLT, Int.reduceToNat, Int.reduceNeg, reduceCtorEq, Int.reduceEq, SF0, SF1, SF2, DCg0, DCe0, DCe1, DCe2, DDb0, DBc0, DBc1, DDe0]
    all_goals first
      | (refine ⟨true, fun _ => by omega, ?_⟩; (refine wk_le ?_ ?_ ?_; (focus (simp [W8, leTm, leAV, AV.under, underL, rdr, wkc]; done)); (focus (simp [leL, OB.under, underL, AV.under, rdr, wkc]; done)); (focus (simp; done))))
      | (refine ⟨false, fun h => (by cases h), ?_⟩; (refine wk_le ?_ ?_ ?_; (focus (simp [W8, leTm, leAV, AV.under, underL, rdr, wkc]; done)); (focus (simp [leL, OB.under, underL, AV.under, rdr, wkc]; done)); (focus (simp; done))))
      | (refine ⟨decide (h = 1), fun _ => by omega, ?_⟩; (refine wk_le ?_ ?_ ?_; (focus (simp [W8, leTm, leAV, AV.under, underL, rdr, wkc]; done)); (focus (simp [leL, OB.under, underL, AV.under, rdr, wkc]; done)); (focus (simp; done))))
  refine awp_end (bl := []) T_tt ?_
  simp (disch := omega) only [SX0, SX1, SX2, SX3, SX4, SX5, SX6, SX7, SX8, SU0, SY0, SY1, Nat.reduceAdd, Nat.reduceMul, Nat.reduceSub, Nat.reduceLeDiff, Nat.reduceEqDiff, Nat.reduceLT, Nat.reduceBEq, ↓reduceIte, Int.reduceLE, Int.reduceLT, Int.reduceToNat, Int.reduceNeg, reduceCtorEq, Int.reduceEq, SF0, SF1, SF2, DCg0, DCe0, DCe1, DCe2, DDb0, DBc0, DBc1, DDe0]
  refine br_bool (fun ht => ?_) (fun ht => ?_)
  · obtain ⟨hd0, hw1⟩ := hb ht
    have hpp := picks_pred hd0
    have hpk1 := picks_pos (d - 1)
    have hdd : ((d - 1 : Nat) : Int) = (d : Int) - 1 := by omega
    simp (disch := omega) only [SX0, SX1, SX2, SX3, SX4, SX5, SX6, SX7, SX8, SU0, SY0, SY1, Nat.reduceAdd, Nat.reduceMul, Nat.reduceSub, Nat.reduceLeDiff, Nat.reduceEqDiff, Nat.reduceLT, Nat.reduceBEq, ↓reduceIte, Int.reduceLE, Int.reduceLT, Int.reduceToNat, Int.reduceNeg, reduceCtorEq, Int.reduceEq, SF0, SF1, SF2, DCg0, DCe0, DCe1, DCe2, DDb0, DBc0, DBc1, DDe0]
    refine pick_call hx hl (by omega) rfl fun v hv1 hv2 hv3 => ?_
    have hv2 := hv2 (by omega)
    simp (disch := omega) only [SX0, SX1, SX2, SX3, SX4, SX5, SX6, SX7, SX8, SU0, SY0, SY1, Nat.reduceAdd, Nat.reduceMul, Nat.reduceSub, Nat.reduceLeDiff, Nat.reduceEqDiff, Nat.reduceLT, Nat.reduceBEq, ↓reduceIte, Int.reduceLE, Int.reduceLT, Int.reduceToNat, Int.reduceNeg, reduceCtorEq, Int.reduceEq, SF0, SF1, SF2, DCg0, DCe0, DCe1, DCe2, DDb0, DBc0, DBc1, DDe0]
    have g1 := ih (d - 1) (by omega) (p + 1 + 1) (1 + v) h Ps (by omega) (by omega) hh hPs hPq (by omega)
    rw [hdd] at g1
    refine acall_own g1 [0, 1, 2] [2] (by simp only [SX0, SX1, SX2, SX3, SX4, SX5, SX6, SX7, SX8, SU0, SY0, SY1, Nat.reduceAdd, Nat.reduceMul, Nat.reduceSub, Nat.reduceLeDiff, Nat.reduceEqDiff, Nat.reduceLT, Nat.reduceBEq, ↓reduceIte, Int.reduceLE, Int.reduceLT, Int.reduceToNat, Int.reduceNeg, reduceCtorEq, Int.reduceEq, SF0, SF1, SF2, DCg0, DCe0, DCe1, DCe2, DDb0, DBc0, DBc1, DDe0, SX0]) (by decide) (by decide) (by rfl) (by simp only [SX0, SX1, SX2, SX3, SX4, SX5, SX6, SX7, SX8, SU0, SY0, SY1, Nat.reduceAdd, Nat.reduceMul, Nat.reduceSub, Nat.reduceLeDiff, Nat.reduceEqDiff, Nat.reduceLT, Nat.reduceBEq, ↓reduceIte, Int.reduceLE, Int.reduceLT, Int.reduceToNat, Int.reduceNeg, reduceCtorEq, Int.reduceEq, SF0, SF1, SF2, DCg0, DCe0, DCe1, DCe2, DDb0, DBc0, DBc1, DDe0, SX0]) ?_
    rintro _ _ ⟨q1, p1, Ps1, rfl, rfl, hq1, hp1, hPs1, hPq1, hG1⟩
    simp (disch := omega) only [SX0, SX1, SX2, SX3, SX4, SX5, SX6, SX7, SX8, SU0, SY0, SY1, Nat.reduceAdd, Nat.reduceMul, Nat.reduceSub, Nat.reduceLeDiff, Nat.reduceEqDiff, Nat.reduceLT, Nat.reduceBEq, ↓reduceIte, Int.reduceLE, Int.reduceLT, Int.reduceToNat, Int.reduceNeg, reduceCtorEq, Int.reduceEq, SF0, SF1, SF2, DCg0, DCe0, DCe1, DCe2, DDb0, DBc0, DBc1, DDe0]
    refine awp_float (bl := []) T_tt mixed [0, 1, 3, 4] [0, 1, 2, 3, 4, 5, 6, 7, 8, 9] [(10, [(2, .f 55), (3, .f 56), (4, .f 57), (5, .f 58), (6, .f 59), (7, .f 60), (8, .f 61), (9, .f 62)]), (11, [(1, .f 54)]), (12, [(0, .f 53)]), (13, [])] [] (by kernel_rfl) (by kernel_rfl) ?_
    simp (disch := omega) only [SX0, SX1, SX2, SX3, SX4, SX5, SX6, SX7, SX8, SU0, SY0, SY1, Nat.reduceAdd, Nat.reduceMul, Nat.reduceSub, Nat.reduceLeDiff, Nat.reduceEqDiff, Nat.reduceLT, Nat.reduceBEq, ↓reduceIte, Int.reduceLE, Int.reduceLT, Int.reduceToNat, Int.reduceNeg, reduceCtorEq, Int.reduceEq, SF0, SF1, SF2, DCg0, DCe0, DCe1, DCe2, DDb0, DBc0, DBc1, DDe0]
    have g2 := ih (d - 1) (by omega) p1 (w - (1 + v)) h Ps1 (by omega) (by omega) hh hPs1 hPq1 (by omega)
    rw [hdd] at g2
    refine acall_own g2 [0, 1, 2] [2] (by simp only [SX0, SX1, SX2, SX3, SX4, SX5, SX6, SX7, SX8, SU0, SY0, SY1, Nat.reduceAdd, Nat.reduceMul, Nat.reduceSub, Nat.reduceLeDiff, Nat.reduceEqDiff, Nat.reduceLT, Nat.reduceBEq, ↓reduceIte, Int.reduceLE, Int.reduceLT, Int.reduceToNat, Int.reduceNeg, reduceCtorEq, Int.reduceEq, SF0, SF1, SF2, DCg0, DCe0, DCe1, DCe2, DDb0, DBc0, DBc1, DDe0, SX0]) (by decide) (by decide) (by rfl) (by simp only [SX0, SX1, SX2, SX3, SX4, SX5, SX6, SX7, SX8, SU0, SY0, SY1, Nat.reduceAdd, Nat.reduceMul, Nat.reduceSub, Nat.reduceLeDiff, Nat.reduceEqDiff, Nat.reduceLT, Nat.reduceBEq, ↓reduceIte, Int.reduceLE, Int.reduceLT, Int.reduceToNat, Int.reduceNeg, reduceCtorEq, Int.reduceEq, SF0, SF1, SF2, DCg0, DCe0, DCe1, DCe2, DDb0, DBc0, DBc1, DDe0, SX0]) ?_
    rintro _ _ ⟨q2, p2, Ps2, rfl, rfl, hq2, hp2, hPs2, hPq2, hG2⟩
    simp (disch := omega) only [SX0, SX1, SX2, SX3, SX4, SX5, SX6, SX7, SX8, SU0, SY0, SY1, Nat.reduceAdd, Nat.reduceMul, Nat.reduceSub, Nat.reduceLeDiff, Nat.reduceEqDiff, Nat.reduceLT, Nat.reduceBEq, ↓reduceIte, Int.reduceLE, Int.reduceLT, Int.reduceToNat, Int.reduceNeg, reduceCtorEq, Int.reduceEq, SF0, SF1, SF2, DCg0, DCe0, DCe1, DCe2, DDb0, DBc0, DBc1, DDe0]
    exact fin_ks [0, 1, 2] (.agg (Plan.mk 2 (1 + v) 0 false [q1, q2]).cs) [rdr xs p2, wkc W H Ps2.length, .vec 4 (Ps2.map Pane.cs)] ⟨_, p2, Ps2, rfl, rfl, .mk (by omega) (by omega) (by omega) (by simp) (by simp [hq1, hq2]), ⟨by omega, by omega⟩, hPs2, hPq2, GrownP.down hd0 (by omega) hG1 hG2⟩ (by simp [Plan.cs_eq, Plan.op, Plan.at_, Plan.pa, Plan.tu, Plan.ks, AV.ren, renL]) (by simp [keepL, nameK, rdr, wkc, OB.ren, AV.ren]) (by simp) (by simp) (by simp)
  clear ht hb
  simp (disch := omega) only [SX0, SX1, SX2, SX3, SX4, SX5, SX6, SX7, SX8, SU0, SY0, SY1, Nat.reduceAdd, Nat.reduceMul, Nat.reduceSub, Nat.reduceLeDiff, Nat.reduceEqDiff, Nat.reduceLT, Nat.reduceBEq, ↓reduceIte, Int.reduceLE, Int.reduceLT, Int.reduceToNat, Int.reduceNeg, reduceCtorEq, Int.reduceEq, SF0, SF1, SF2, DCg0, DCe0, DCe1, DCe2, DDb0, DBc0, DBc1, DDe0]
  -- the cut from side to side
  refine awp_nest (awp_cut (bl := []) T_tt (G := Bool) (fun b => b = true → 0 < d ∧ 1 < h) 21 60 (fun b => [(75, .val (.bool b))]) (fun _ => [rdr xs (p + 1), wkc W H Ps.length, .vec 4 (Ps.map Pane.cs), .cells [.val (.int .i64 0), .val (.int .i64 0), .val (.int .i64 0), .val (.bool false), .val (.slice none 0 0)]]) ?_ fun b hb => ?_)
  · repeat' first | with_reducible refine fin_val ⟨?_, rfl⟩ | with_reducible refine br_dec (fun hb => ?_) (fun hb => ?_) | with_reducible refine br_ndec (fun hb => ?_) (fun hb => ?_) | with_reducible refine br_bool (fun hb => ?_) (fun hb => ?_) | with_reducible refine pk_dec (fun hb => ?_) (fun hb => ?_) | with_reducible refine pk_ndec (fun hb => ?_) (fun hb => ?_) | with_reducible refine awp_drawA T_tt mixed (by decide +kernel) (by kernel_rfl) (by kernel_rfl) ?_ | simp (disch := omega) only [SX0, SX1, SX2, SX3, SX4, SX5, SX6, SX7, SX8, SU0, SY0, SY1, Nat.reduceAdd, Nat.reduceMul, Nat.reduceSub, Nat.reduceLeDiff, Nat.reduceEqDiff, Nat.reduceLT, Nat.reduceBEq, ↓reduceIte, Int.reduceLE, Int.reduceLT, Int.reduceToNat, Int.reduceNeg, reduceCtorEq, Int.reduceEq, SF0, SF1, SF2, DCg0, DCe0, DCe1, DCe2, DDb0, DBc0, DBc1, DDe0]
    all_goals first
      | (refine ⟨true, fun _ => by omega, ?_⟩; (refine wk_le ?_ ?_ ?_; (focus (simp [W8, leTm, leAV, AV.under, underL, rdr, wkc]; done)); (focus (simp [leL, OB.under, underL, AV.under, rdr, wkc]; done)); (focus (simp; done))))
      | (refine ⟨false, fun h => (by cases h), ?_⟩; (refine wk_le ?_ ?_ ?_; (focus (simp [W8, leTm, leAV, AV.under, underL, rdr, wkc]; done)); (focus (simp [leL, OB.under, underL, AV.under, rdr, wkc]; done)); (focus (simp; done))))
      | (refine ⟨decide (c < 6), fun _ => by omega, ?_⟩; (refine wk_le ?_ ?_ ?_; (focus (simp [W8, leTm, leAV, AV.under, underL, rdr, wkc]; done)); (focus (simp [leL, OB.under, underL, AV.under, rdr, wkc]; done)); (focus (simp; done))))
  refine awp_end (bl := []) T_tt ?_
  simp (disch := omega) only [SX0, SX1, SX2, SX3, SX4, SX5, SX6, SX7, SX8, SU0, SY0, SY1, Nat.reduceAdd, Nat.reduceMul, Nat.reduceSub, Nat.reduceLeDiff, Nat.reduceEqDiff, Nat.reduceLT, Nat.reduceBEq, ↓reduceIte, Int.reduceLE, Int.reduceLT, Int.reduceToNat, Int.reduceNeg, reduceCtorEq, Int.reduceEq, SF0, SF1, SF2, DCg0, DCe0, DCe1, DCe2, DDb0, DBc0, DBc1, DDe0]
  refine br_bool (fun ht => ?_) (fun ht => ?_)
  · obtain ⟨hd0, hh1⟩ := hb ht
    have hpp := picks_pred hd0
    have hpk1 := picks_pos (d - 1)
    have hdd : ((d - 1 : Nat) : Int) = (d : Int) - 1 := by omega
    simp (disch := omega) only [SX0, SX1, SX2, SX3, SX4, SX5, SX6, SX7, SX8, SU0, SY0, SY1, Nat.reduceAdd, Nat.reduceMul, Nat.reduceSub, Nat.reduceLeDiff, Nat.reduceEqDiff, Nat.reduceLT, Nat.reduceBEq, ↓reduceIte, Int.reduceLE, Int.reduceLT, Int.reduceToNat, Int.reduceNeg, reduceCtorEq, Int.reduceEq, SF0, SF1, SF2, DCg0, DCe0, DCe1, DCe2, DDb0, DBc0, DBc1, DDe0]
    refine pick_call hx hl (by omega) rfl fun v hv1 hv2 hv3 => ?_
    have hv2 := hv2 (by omega)
    simp (disch := omega) only [SX0, SX1, SX2, SX3, SX4, SX5, SX6, SX7, SX8, SU0, SY0, SY1, Nat.reduceAdd, Nat.reduceMul, Nat.reduceSub, Nat.reduceLeDiff, Nat.reduceEqDiff, Nat.reduceLT, Nat.reduceBEq, ↓reduceIte, Int.reduceLE, Int.reduceLT, Int.reduceToNat, Int.reduceNeg, reduceCtorEq, Int.reduceEq, SF0, SF1, SF2, DCg0, DCe0, DCe1, DCe2, DDb0, DBc0, DBc1, DDe0]
    have g1 := ih (d - 1) (by omega) (p + 1 + 1) w (1 + v) Ps (by omega) hw (by omega) hPs hPq (by omega)
    rw [hdd] at g1
    refine acall_own g1 [0, 1, 2] [2] (by simp only [SX0, SX1, SX2, SX3, SX4, SX5, SX6, SX7, SX8, SU0, SY0, SY1, Nat.reduceAdd, Nat.reduceMul, Nat.reduceSub, Nat.reduceLeDiff, Nat.reduceEqDiff, Nat.reduceLT, Nat.reduceBEq, ↓reduceIte, Int.reduceLE, Int.reduceLT, Int.reduceToNat, Int.reduceNeg, reduceCtorEq, Int.reduceEq, SF0, SF1, SF2, DCg0, DCe0, DCe1, DCe2, DDb0, DBc0, DBc1, DDe0, SX0]) (by decide) (by decide) (by rfl) (by simp only [SX0, SX1, SX2, SX3, SX4, SX5, SX6, SX7, SX8, SU0, SY0, SY1, Nat.reduceAdd, Nat.reduceMul, Nat.reduceSub, Nat.reduceLeDiff, Nat.reduceEqDiff, Nat.reduceLT, Nat.reduceBEq, ↓reduceIte, Int.reduceLE, Int.reduceLT, Int.reduceToNat, Int.reduceNeg, reduceCtorEq, Int.reduceEq, SF0, SF1, SF2, DCg0, DCe0, DCe1, DCe2, DDb0, DBc0, DBc1, DDe0, SX0]) ?_
    rintro _ _ ⟨q1, p1, Ps1, rfl, rfl, hq1, hp1, hPs1, hPq1, hG1⟩
    simp (disch := omega) only [SX0, SX1, SX2, SX3, SX4, SX5, SX6, SX7, SX8, SU0, SY0, SY1, Nat.reduceAdd, Nat.reduceMul, Nat.reduceSub, Nat.reduceLeDiff, Nat.reduceEqDiff, Nat.reduceLT, Nat.reduceBEq, ↓reduceIte, Int.reduceLE, Int.reduceLT, Int.reduceToNat, Int.reduceNeg, reduceCtorEq, Int.reduceEq, SF0, SF1, SF2, DCg0, DCe0, DCe1, DCe2, DDb0, DBc0, DBc1, DDe0]
    refine awp_float (bl := []) T_tt mixed [0, 1, 3, 4] [0, 1, 2, 3, 4, 5, 6, 7, 8, 9] [(10, [(2, .f 90), (3, .f 91), (4, .f 92), (5, .f 93), (6, .f 94), (7, .f 95), (8, .f 96), (9, .f 97)]), (11, [(1, .f 89)]), (12, [(0, .f 88)]), (13, [])] [] (by kernel_rfl) (by kernel_rfl) ?_
    simp (disch := omega) only [SX0, SX1, SX2, SX3, SX4, SX5, SX6, SX7, SX8, SU0, SY0, SY1, Nat.reduceAdd, Nat.reduceMul, Nat.reduceSub, Nat.reduceLeDiff, Nat.reduceEqDiff, Nat.reduceLT, Nat.reduceBEq, ↓reduceIte, Int.reduceLE, Int.reduceLT, Int.reduceToNat, Int.reduceNeg, reduceCtorEq, Int.reduceEq, SF0, SF1, SF2, DCg0, DCe0, DCe1, DCe2, DDb0, DBc0, DBc1, DDe0]
    have g2 := ih (d - 1) (by omega) p1 w (h - (1 + v)) Ps1 (by omega) hw (by omega) hPs1 hPq1 (by omega)
    rw [hdd] at g2
    refine acall_own g2 [0, 1, 2] [2] (by simp only [SX0, SX1, SX2, SX3, SX4, SX5, SX6, SX7, SX8, SU0, SY0, SY1, Nat.reduceAdd, Nat.reduceMul, Nat.reduceSub, Nat.reduceLeDiff, Nat.reduceEqDiff, Nat.reduceLT, Nat.reduceBEq, ↓reduceIte, Int.reduceLE, Int.reduceLT, Int.reduceToNat, Int.reduceNeg, reduceCtorEq, Int.reduceEq, SF0, SF1, SF2, DCg0, DCe0, DCe1, DCe2, DDb0, DBc0, DBc1, DDe0, SX0]) (by decide) (by decide) (by rfl) (by simp only [SX0, SX1, SX2, SX3, SX4, SX5, SX6, SX7, SX8, SU0, SY0, SY1, Nat.reduceAdd, Nat.reduceMul, Nat.reduceSub, Nat.reduceLeDiff, Nat.reduceEqDiff, Nat.reduceLT, Nat.reduceBEq, ↓reduceIte, Int.reduceLE, Int.reduceLT, Int.reduceToNat, Int.reduceNeg, reduceCtorEq, Int.reduceEq, SF0, SF1, SF2, DCg0, DCe0, DCe1, DCe2, DDb0, DBc0, DBc1, DDe0, SX0]) ?_
    rintro _ _ ⟨q2, p2, Ps2, rfl, rfl, hq2, hp2, hPs2, hPq2, hG2⟩
    simp (disch := omega) only [SX0, SX1, SX2, SX3, SX4, SX5, SX6, SX7, SX8, SU0, SY0, SY1, Nat.reduceAdd, Nat.reduceMul, Nat.reduceSub, Nat.reduceLeDiff, Nat.reduceEqDiff, Nat.reduceLT, Nat.reduceBEq, ↓reduceIte, Int.reduceLE, Int.reduceLT, Int.reduceToNat, Int.reduceNeg, reduceCtorEq, Int.reduceEq, SF0, SF1, SF2, DCg0, DCe0, DCe1, DCe2, DDb0, DBc0, DBc1, DDe0]
    exact fin_ks [0, 1, 2] (.agg (Plan.mk 3 (1 + v) 0 false [q1, q2]).cs) [rdr xs p2, wkc W H Ps2.length, .vec 4 (Ps2.map Pane.cs)] ⟨_, p2, Ps2, rfl, rfl, .mk (by omega) (by omega) (by omega) (by simp) (by simp [hq1, hq2]), ⟨by omega, by omega⟩, hPs2, hPq2, GrownP.across hd0 (by omega) hG1 hG2⟩ (by simp [Plan.cs_eq, Plan.op, Plan.at_, Plan.pa, Plan.tu, Plan.ks, AV.ren, renL]) (by simp [keepL, nameK, rdr, wkc, OB.ren, AV.ren]) (by simp) (by simp) (by simp)
  clear ht hb
  simp (disch := omega) only [SX0, SX1, SX2, SX3, SX4, SX5, SX6, SX7, SX8, SU0, SY0, SY1, Nat.reduceAdd, Nat.reduceMul, Nat.reduceSub, Nat.reduceLeDiff, Nat.reduceEqDiff, Nat.reduceLT, Nat.reduceBEq, ↓reduceIte, Int.reduceLE, Int.reduceLT, Int.reduceToNat, Int.reduceNeg, reduceCtorEq, Int.reduceEq, SF0, SF1, SF2, DCg0, DCe0, DCe1, DCe2, DDb0, DBc0, DBc1, DDe0]
  -- waste
  refine awp_step (bl := []) T_tt ?_
  simp (disch := omega) only [SX0, SX1, SX2, SX3, SX4, SX5, SX6, SX7, SX8, SU0, SY0, SY1, Nat.reduceAdd, Nat.reduceMul, Nat.reduceSub, Nat.reduceLeDiff, Nat.reduceEqDiff, Nat.reduceLT, Nat.reduceBEq, ↓reduceIte, Int.reduceLE, Int.reduceLT, Int.reduceToNat, Int.reduceNeg, reduceCtorEq, Int.reduceEq, SF0, SF1, SF2, DCg0, DCe0, DCe1, DCe2, DDb0, DBc0, DBc1, DDe0]
  refine br_dec (fun h7 => ?_) (fun h7 => ?_)
  · simp (disch := omega) only [SX0, SX1, SX2, SX3, SX4, SX5, SX6, SX7, SX8, SU0, SY0, SY1, Nat.reduceAdd, Nat.reduceMul, Nat.reduceSub, Nat.reduceLeDiff, Nat.reduceEqDiff, Nat.reduceLT, Nat.reduceBEq, ↓reduceIte, Int.reduceLE, Int.reduceLT, Int.reduceToNat, Int.reduceNeg, reduceCtorEq, Int.reduceEq, SF0, SF1, SF2, DCg0, DCe0, DCe1, DCe2, DDb0, DBc0, DBc1, DDe0]
    refine fin_nrm ?_
    simp only [AV.nrm, nrmL]
    exact fin_ks [0, 1, 2] (.agg (Plan.mk 0 0 0 false []).cs) [rdr xs (p + 1), wkc W H Ps.length, .vec 4 (Ps.map Pane.cs)] ⟨_, p + 1, Ps, rfl, rfl, .mk (by omega) (by omega) (by omega) (by simp) (by simp), ⟨by omega, by omega⟩, hPs, hPq, GrownP.waste Ps w h d⟩ (by simp [Plan.cs_eq, Plan.op, Plan.at_, Plan.pa, Plan.tu, Plan.ks, AV.ren, renL]) (by simp [keepL, nameK, rdr, wkc, OB.ren, AV.ren]) (by simp) (by simp) (by simp)
  simp (disch := omega) only [SX0, SX1, SX2, SX3, SX4, SX5, SX6, SX7, SX8, SU0, SY0, SY1, Nat.reduceAdd, Nat.reduceMul, Nat.reduceSub, Nat.reduceLeDiff, Nat.reduceEqDiff, Nat.reduceLT, Nat.reduceBEq, ↓reduceIte, Int.reduceLE, Int.reduceLT, Int.reduceToNat, Int.reduceNeg, reduceCtorEq, Int.reduceEq, SF0, SF1, SF2, DCg0, DCe0, DCe1, DCe2, DDb0, DBc0, DBc1, DDe0]
  -- a pane that is there already
  refine awp_nest (awp_step (bl := []) T_tt ?_)
  simp (disch := omega) only [SX0, SX1, SX2, SX3, SX4, SX5, SX6, SX7, SX8, SU0, SY0, SY1, Nat.reduceAdd, Nat.reduceMul, Nat.reduceSub, Nat.reduceLeDiff, Nat.reduceEqDiff, Nat.reduceLT, Nat.reduceBEq, ↓reduceIte, Int.reduceLE, Int.reduceLT, Int.reduceToNat, Int.reduceNeg, reduceCtorEq, Int.reduceEq, SF0, SF1, SF2, DCg0, DCe0, DCe1, DCe2, DDb0, DBc0, DBc1, DDe0]
  refine awp_end (bl := []) T_tt ?_
  simp (disch := omega) only [SX0, SX1, SX2, SX3, SX4, SX5, SX6, SX7, SX8, SU0, SY0, SY1, Nat.reduceAdd, Nat.reduceMul, Nat.reduceSub, Nat.reduceLeDiff, Nat.reduceEqDiff, Nat.reduceLT, Nat.reduceBEq, ↓reduceIte, Int.reduceLE, Int.reduceLT, Int.reduceToNat, Int.reduceNeg, reduceCtorEq, Int.reduceEq, SF0, SF1, SF2, DCg0, DCe0, DCe1, DCe2, DDb0, DBc0, DBc1, DDe0]
  with_reducible refine awp_loop_h 11 117 (fun (i : Nat) => [(16, .val (.int .i64 i))]) (fun _ => [rdr xs (p + 1), wkc W H Ps.length, .vec 4 (Ps.map Pane.cs), .cells [.val (.int .i64 0), .val (.int .i64 0), .val (.int .i64 0), .val (.bool false), .val (.slice none 0 0)]]) (fun i => i ≤ Ps.length) (fun i => Ps.length - i) 0 (Nat.zero_le _) ?_ (fun i hi => sx_sound (bl := []) T_tt _ _ _ ?_)
  · simp (disch := omega) only [SX0, SX1, SX2, SX3, SX4, SX5, SX6, SX7, SX8, SU0, SY0, SY1, Nat.reduceAdd, Nat.reduceMul, Nat.reduceSub, Nat.reduceLeDiff, Nat.reduceEqDiff, Nat.reduceLT, Nat.reduceBEq, ↓reduceIte, Int.reduceLE, Int.reduceLT, Int.reduceToNat, Int.reduceNeg, reduceCtorEq, Int.reduceEq, SF0, SF1, SF2, DCg0, DCe0, DCe1, DCe2, DDb0, DBc0, DBc1, DDe0]
    (refine wk_le ?_ ?_ ?_; (focus (simp [W8, leTm, leAV, AV.under, underL, rdr, wkc]; done)); (focus (simp [leL, OB.under, underL, AV.under, rdr, wkc]; done)); (focus (simp; done)))
  simp (disch := omega) only [SX0, SX1, SX2, SX3, SX4, SX5, SX6, SX7, SX8, SU0, SY0, SY1, Nat.reduceAdd, Nat.reduceMul, Nat.reduceSub, Nat.reduceLeDiff, Nat.reduceEqDiff, Nat.reduceLT, Nat.reduceBEq, ↓reduceIte, Int.reduceLE, Int.reduceLT, Int.reduceToNat, Int.reduceNeg, reduceCtorEq, Int.reduceEq, SF0, SF1, SF2, DCg0, DCe0, DCe1, DCe2, DDb0, DBc0, DBc1, DDe0]
  refine br_dec (fun hi1 => ?_) (fun hi1 => ?_)
  · simp (disch := omega) only [SX0, SX1, SX2, SX3, SX4, SX5, SX6, SX7, SX8, SU0, SY0, SY1, Nat.reduceAdd, Nat.reduceMul, Nat.reduceSub, Nat.reduceLeDiff, Nat.reduceEqDiff, Nat.reduceLT, Nat.reduceBEq, ↓reduceIte, Int.reduceLE, Int.reduceLT, Int.reduceToNat, Int.reduceNeg, reduceCtorEq, Int.reduceEq, SF0, SF1, SF2, DCg0, DCe0, DCe1, DCe2, DDb0, DBc0, DBc1, DDe0]
    with_reducible refine awp_loop_h 17 111 (fun (j : Nat) => [(17, .val (.int .i64 j))]) (fun _ => [rdr xs (p + 1), wkc W H Ps.length, .vec 4 (Ps.map Pane.cs), .cells [.val (.int .i64 0), .val (.int .i64 0), .val (.int .i64 0), .val (.bool false), .val (.slice none 0 0)]]) (fun j => j ≤ 2) (fun j => 2 - j) 0 (Nat.zero_le _) ?_ (fun j hj => sx_sound (bl := []) T_tt _ _ _ ?_)
    · simp (disch := omega) only [SX0, SX1, SX2, SX3, SX4, SX5, SX6, SX7, SX8, SU0, SY0, SY1, Nat.reduceAdd, Nat.reduceMul, Nat.reduceSub, Nat.reduceLeDiff, Nat.reduceEqDiff, Nat.reduceLT, Nat.reduceBEq, ↓reduceIte, Int.reduceLE, Int.reduceLT, Int.reduceToNat, Int.reduceNeg, reduceCtorEq, Int.reduceEq, SF0, SF1, SF2, DCg0, DCe0, DCe1, DCe2, DDb0, DBc0, DBc1, DDe0]
      (refine wk_le ?_ ?_ ?_; (focus (simp [W8, leTm, leAV, AV.under, underL, rdr, wkc]; done)); (focus (simp [leL, OB.under, underL, AV.under, rdr, wkc]; done)); (focus (simp; done)))
    simp (disch := omega) only [SX0, SX1, SX2, SX3, SX4, SX5, SX6, SX7, SX8, SU0, SY0, SY1, Nat.reduceAdd, Nat.reduceMul, Nat.reduceSub, Nat.reduceLeDiff, Nat.reduceEqDiff, Nat.reduceLT, Nat.reduceBEq, ↓reduceIte, Int.reduceLE, Int.reduceLT, Int.reduceToNat, Int.reduceNeg, reduceCtorEq, Int.reduceEq, SF0, SF1, SF2, DCg0, DCe0, DCe1, DCe2, DDb0, DBc0, DBc1, DDe0]
    refine br_dec (fun hj1 => ?_) (fun hj1 => ?_)
    · simp (disch := omega) only [SX0, SX1, SX2, SX3, SX4, SX5, SX6, SX7, SX8, SU0, SY0, SY1, Nat.reduceAdd, Nat.reduceMul, Nat.reduceSub, Nat.reduceLeDiff, Nat.reduceEqDiff, Nat.reduceLT, Nat.reduceBEq, ↓reduceIte, Int.reduceLE, Int.reduceLT, Int.reduceToNat, Int.reduceNeg, reduceCtorEq, Int.reduceEq, SF0, SF1, SF2, DCg0, DCe0, DCe1, DCe2, DDb0, DBc0, DBc1, DDe0]
      refine awp_float (bl := []) T_tt mixed [0, 1, 2, 3, 4] [0, 1, 2, 3, 4, 5] [(6, [(0, .f 121), (1, .f 122), (2, .f 123), (3, .f 124), (4, .f 125), (5, .f 126)])] [] (by kernel_rfl) (by kernel_rfl) ?_
      simp (disch := omega) only [SX0, SX1, SX2, SX3, SX4, SX5, SX6, SX7, SX8, SU0, SY0, SY1, Nat.reduceAdd, Nat.reduceMul, Nat.reduceSub, Nat.reduceLeDiff, Nat.reduceEqDiff, Nat.reduceLT, Nat.reduceBEq, ↓reduceIte, Int.reduceLE, Int.reduceLT, Int.reduceToNat, Int.reduceNeg, reduceCtorEq, Int.reduceEq, SF0, SF1, SF2, DCg0, DCe0, DCe1, DCe2, DDb0, DBc0, DBc1, DDe0]
      refine acall_nrm ?_
      simp only [List.map_cons, List.map_nil, AV.nrm, nrmL]
      have hq := qcall_one (fitsS_c ⟨W, H, Ps⟩ (by show Ps.length < 2 ^ 40; omega) (Plan.mk 1 0 i (decide ((j : Int) = 1)) []) w h (by simp [Plan.wf, Plan.wfL, Plan.good, Plan.cut, Plan.op, Plan.ks, Plan.at_]) (by omega) (by omega)) (by simp [freeL, AV.free, Plan.free, Work.free])
      simp only [Plan.cs_eq, Plan.op, Plan.at_, Plan.pa, Plan.tu, Plan.ks, Work.cs, List.map_nil] at hq
      refine acall_borrow (r := 2) (k := 4) (es := Ps.map Pane.cs) rfl (v := .bool ((Plan.mk 1 0 i (decide ((j : Int) = 1)) []).fits ⟨W, H, Ps⟩ w h)) ?_ ?_
      · simp only [List.map_cons, List.map_nil, AV.frz, frzL, if_true, Nat.zero_add, List.drop_zero, true_and, List.length_map, Nat.le_refl]
        rw [List.take_of_length_le (by simp)]
        exact hq
      simp (disch := omega) only [SX0, SX1, SX2, SX3, SX4, SX5, SX6, SX7, SX8, SU0, SY0, SY1, Nat.reduceAdd, Nat.reduceMul, Nat.reduceSub, Nat.reduceLeDiff, Nat.reduceEqDiff, Nat.reduceLT, Nat.reduceBEq, ↓reduceIte, Int.reduceLE, Int.reduceLT, Int.reduceToNat, Int.reduceNeg, reduceCtorEq, Int.reduceEq, SF0, SF1, SF2, DCg0, DCe0, DCe1, DCe2, DDb0, DBc0, DBc1, DDe0]
      refine br_bool (fun hf => ?_) (fun hf => ?_)
      · have hGP : GrownP (Plan.mk 1 0 i (decide ((j : Int) = 1)) []) Ps Ps w h d := by
          rw [Plan.fits_pane _ _ _ _ (by rfl)] at hf
          have := GrownP.pane (Ps := Ps) (t := []) d (by rw [List.append_nil]; exact hf) (by simp)
          rwa [List.append_nil] at this
        simp (disch := omega) only [SX0, SX1, SX2, SX3, SX4, SX5, SX6, SX7, SX8, SU0, SY0, SY1, Nat.reduceAdd, Nat.reduceMul, Nat.reduceSub, Nat.reduceLeDiff, Nat.reduceEqDiff, Nat.reduceLT, Nat.reduceBEq, ↓reduceIte, Int.reduceLE, Int.reduceLT, Int.reduceToNat, Int.reduceNeg, reduceCtorEq, Int.reduceEq, SF0, SF1, SF2, DCg0, DCe0, DCe1, DCe2, DDb0, DBc0, DBc1, DDe0]
        refine fin_nrm ?_
        simp only [AV.nrm, nrmL]
        exact fin_ks [0, 1, 2] (.agg (Plan.mk 1 0 i (decide ((j : Int) = 1)) []).cs) [rdr xs (p + 1), wkc W H Ps.length, .vec 4 (Ps.map Pane.cs)] ⟨_, p + 1, Ps, rfl, rfl, .mk (by omega) (by omega) (by omega) (by simp) (by simp), ⟨by omega, by omega⟩, hPs, hPq, hGP⟩ (by simp [Plan.cs_eq, Plan.op, Plan.at_, Plan.pa, Plan.tu, Plan.ks, AV.ren, renL]) (by simp [keepL, nameK, rdr, wkc, OB.ren, AV.ren]) (by simp) (by simp) (by simp)
      · simp (disch := omega) only [SX0, SX1, SX2, SX3, SX4, SX5, SX6, SX7, SX8, SU0, SY0, SY1, Nat.reduceAdd, Nat.reduceMul, Nat.reduceSub, Nat.reduceLeDiff, Nat.reduceEqDiff, Nat.reduceLT, Nat.reduceBEq, ↓reduceIte, Int.reduceLE, Int.reduceLT, Int.reduceToNat, Int.reduceNeg, reduceCtorEq, Int.reduceEq, SF0, SF1, SF2, DCg0, DCe0, DCe1, DCe2, DDb0, DBc0, DBc1, DDe0]
        refine ⟨j + 1, by omega, by omega, ?_⟩
        (refine wk_le ?_ ?_ ?_; (focus (simp [W8, leTm, leAV, AV.under, underL, rdr, wkc]; done)); (focus (simp [leL, OB.under, underL, AV.under, rdr, wkc]; done)); (focus (simp; done)))
    · simp (disch := omega) only [SX0, SX1, SX2, SX3, SX4, SX5, SX6, SX7, SX8, SU0, SY0, SY1, Nat.reduceAdd, Nat.reduceMul, Nat.reduceSub, Nat.reduceLeDiff, Nat.reduceEqDiff, Nat.reduceLT, Nat.reduceBEq, ↓reduceIte, Int.reduceLE, Int.reduceLT, Int.reduceToNat, Int.reduceNeg, reduceCtorEq, Int.reduceEq, SF0, SF1, SF2, DCg0, DCe0, DCe1, DCe2, DDb0, DBc0, DBc1, DDe0]
      refine ⟨i + 1, by omega, by omega, ?_⟩
      (refine wk_le ?_ ?_ ?_; (focus (simp [W8, leTm, leAV, AV.under, underL, rdr, wkc]; done)); (focus (simp [leL, OB.under, underL, AV.under, rdr, wkc]; done)); (focus (simp; done)))
  simp (disch := omega) only [SX0, SX1, SX2, SX3, SX4, SX5, SX6, SX7, SX8, SU0, SY0, SY1, Nat.reduceAdd, Nat.reduceMul, Nat.reduceSub, Nat.reduceLeDiff, Nat.reduceEqDiff, Nat.reduceLT, Nat.reduceBEq, ↓reduceIte, Int.reduceLE, Int.reduceLT, Int.reduceToNat, Int.reduceNeg, reduceCtorEq, Int.reduceEq, SF0, SF1, SF2, DCg0, DCe0, DCe1, DCe2, DDb0, DBc0, DBc1, DDe0]
  refine awp_step (bl := []) T_tt ?_
  simp (disch := omega) only [SX0, SX1, SX2, SX3, SX4, SX5, SX6, SX7, SX8, SU0, SY0, SY1, Nat.reduceAdd, Nat.reduceMul, Nat.reduceSub, Nat.reduceLeDiff, Nat.reduceEqDiff, Nat.reduceLT, Nat.reduceBEq, ↓reduceIte, Int.reduceLE, Int.reduceLT, Int.reduceToNat, Int.reduceNeg, reduceCtorEq, Int.reduceEq, SF0, SF1, SF2, DCg0, DCe0, DCe1, DCe2, DDb0, DBc0, DBc1, DDe0]
  refine br_dec (fun h24 => ?_) (fun h24 => ?_)
  · simp (disch := omega) only [SX0, SX1, SX2, SX3, SX4, SX5, SX6, SX7, SX8, SU0, SY0, SY1, Nat.reduceAdd, Nat.reduceMul, Nat.reduceSub, Nat.reduceLeDiff, Nat.reduceEqDiff, Nat.reduceLT, Nat.reduceBEq, ↓reduceIte, Int.reduceLE, Int.reduceLT, Int.reduceToNat, Int.reduceNeg, reduceCtorEq, Int.reduceEq, SF0, SF1, SF2, DCg0, DCe0, DCe1, DCe2, DDb0, DBc0, DBc1, DDe0]
    refine fin_nrm ?_
    simp only [AV.nrm, nrmL]
    exact fin_ks [0, 1, 2] (.agg (Plan.mk 0 0 0 false []).cs) [rdr xs (p + 1), wkc W H Ps.length, .vec 4 (Ps.map Pane.cs)] ⟨_, p + 1, Ps, rfl, rfl, .mk (by omega) (by omega) (by omega) (by simp) (by simp), ⟨by omega, by omega⟩, hPs, hPq, GrownP.waste Ps w h d⟩ (by simp [Plan.cs_eq, Plan.op, Plan.at_, Plan.pa, Plan.tu, Plan.ks, AV.ren, renL]) (by simp [keepL, nameK, rdr, wkc, OB.ren, AV.ren]) (by simp) (by simp) (by simp)
  simp (disch := omega) only [SX0, SX1, SX2, SX3, SX4, SX5, SX6, SX7, SX8, SU0, SY0, SY1, Nat.reduceAdd, Nat.reduceMul, Nat.reduceSub, Nat.reduceLeDiff, Nat.reduceEqDiff, Nat.reduceLT, Nat.reduceBEq, ↓reduceIte, Int.reduceLE, Int.reduceLT, Int.reduceToNat, Int.reduceNeg, reduceCtorEq, Int.reduceEq, SF0, SF1, SF2, DCg0, DCe0, DCe1, DCe2, DDb0, DBc0, DBc1, DDe0]
  -- a new pane
  refine awp_cut (bl := []) T_tt (G := Bool) (fun tu => tu = true → w ≠ h) 11 140 (fun b => [(19, .val (.bool b))]) (fun _ => [rdr xs (p + 2), wkc W H Ps.length, .vec 4 (Ps.map Pane.cs), .cells [.val (.int .i64 0), .val (.int .i64 0), .val (.int .i64 0), .val (.bool false), .val (.slice none 0 0)]]) ?_ fun tu htw => ?_
  · simp (disch := omega) only [SX0, SX1, SX2, SX3, SX4, SX5, SX6, SX7, SX8, SU0, SY0, SY1, Nat.reduceAdd, Nat.reduceMul, Nat.reduceSub, Nat.reduceLeDiff, Nat.reduceEqDiff, Nat.reduceLT, Nat.reduceBEq, ↓reduceIte, Int.reduceLE, Int.reduceLT, Int.reduceToNat, Int.reduceNeg, reduceCtorEq, Int.reduceEq, SF0, SF1, SF2, DCg0, DCe0, DCe1, DCe2, DDb0, DBc0, DBc1, DDe0]
    refine pick_call hx hl (by omega) rfl fun v hv1 hv2 hv3 => ?_
    have e2 : p + 1 + 1 = p + 2 := by omega
    rw [e2]
    repeat' first | with_reducible refine fin_val ⟨?_, rfl⟩ | with_reducible refine br_dec (fun hb => ?_) (fun hb => ?_) | with_reducible refine br_ndec (fun hb => ?_) (fun hb => ?_) | with_reducible refine br_bool (fun hb => ?_) (fun hb => ?_) | with_reducible refine pk_dec (fun hb => ?_) (fun hb => ?_) | with_reducible refine pk_ndec (fun hb => ?_) (fun hb => ?_) | with_reducible refine awp_drawA T_tt mixed (by decide +kernel) (by kernel_rfl) (by kernel_rfl) ?_ | simp (disch := omega) only [SX0, SX1, SX2, SX3, SX4, SX5, SX6, SX7, SX8, SU0, SY0, SY1, Nat.reduceAdd, Nat.reduceMul, Nat.reduceSub, Nat.reduceLeDiff, Nat.reduceEqDiff, Nat.reduceLT, Nat.reduceBEq, ↓reduceIte, Int.reduceLE, Int.reduceLT, Int.reduceToNat, Int.reduceNeg, reduceCtorEq, Int.reduceEq, SF0, SF1, SF2, DCg0, DCe0, DCe1, DCe2, DDb0, DBc0, DBc1, DDe0]
    all_goals first
      | (refine ⟨true, fun _ => by omega, ?_⟩; (refine wk_le ?_ ?_ ?_; (focus (simp [W8, leTm, leAV, AV.under, underL, rdr, wkc]; done)); (focus (simp [leL, OB.under, underL, AV.under, rdr, wkc]; done)); (focus (simp; done))))
      | (refine ⟨false, fun hh => (by cases hh), ?_⟩; (refine wk_le ?_ ?_ ?_; (focus (simp [W8, leTm, leAV, AV.under, underL, rdr, wkc]; done)); (focus (simp [leL, OB.under, underL, AV.under, rdr, wkc]; done)); (focus (simp; done))))
      | (refine ⟨!decide (w = h), fun hh => (by simpa using hh), ?_⟩; (refine wk_le ?_ ?_ ?_; (focus (simp [W8, leTm, leAV, AV.under, underL, rdr, wkc]; done)); (focus (simp [leL, OB.under, underL, AV.under, rdr, wkc]; done)); (focus (simp; done))))
  refine awp_cut (bl := []) T_tt (G := Pane × Int) (fun g => g.1.Small ∧ p + 2 ≤ g.2 ∧ g.2 ≤ p + 4 ∧ g.1.W = w ∧ g.1.H = h ∧ (tu = true → g.1.Tu = true) ∧ 0 ≤ g.1.Ki ∧ g.1.Ki ≤ 9) 21 140 (fun _ => [(20, .ptr 4 0)]) (fun g => [rdr xs (g.2), wkc W H Ps.length, .vec 4 (Ps.map Pane.cs), .cells [.val (.int .i64 0), .val (.int .i64 0), .val (.int .i64 0), .val (.bool false), .val (.slice none 0 0)], .cells g.1.cs]) ?_ fun g hg => ?_
  · simp (disch := omega) only [SX0, SX1, SX2, SX3, SX4, SX5, SX6, SX7, SX8, SU0, SY0, SY1, Nat.reduceAdd, Nat.reduceMul, Nat.reduceSub, Nat.reduceLeDiff, Nat.reduceEqDiff, Nat.reduceLT, Nat.reduceBEq, ↓reduceIte, Int.reduceLE, Int.reduceLT, Int.reduceToNat, Int.reduceNeg, reduceCtorEq, Int.reduceEq, SF0, SF1, SF2, DCg0, DCe0, DCe1, DCe2, DDb0, DBc0, DBc1, DDe0]
    refine br_bool (fun htu => ?_) (fun htu => ?_)
    · simp (disch := omega) only [SX0, SX1, SX2, SX3, SX4, SX5, SX6, SX7, SX8, SU0, SY0, SY1, Nat.reduceAdd, Nat.reduceMul, Nat.reduceSub, Nat.reduceLeDiff, Nat.reduceEqDiff, Nat.reduceLT, Nat.reduceBEq, ↓reduceIte, Int.reduceLE, Int.reduceLT, Int.reduceToNat, Int.reduceNeg, reduceCtorEq, Int.reduceEq, SF0, SF1, SF2, DCg0, DCe0, DCe1, DCe2, DDb0, DBc0, DBc1, DDe0]
      refine pick_call hx hl (by omega) rfl fun v hv1 hv2 hv3 => ?_
      have hv2 := hv2 (by omega)
      simp (disch := omega) only [SX0, SX1, SX2, SX3, SX4, SX5, SX6, SX7, SX8, SU0, SY0, SY1, Nat.reduceAdd, Nat.reduceMul, Nat.reduceSub, Nat.reduceLeDiff, Nat.reduceEqDiff, Nat.reduceLT, Nat.reduceBEq, ↓reduceIte, Int.reduceLE, Int.reduceLT, Int.reduceToNat, Int.reduceNeg, reduceCtorEq, Int.reduceEq, SF0, SF1, SF2, DCg0, DCe0, DCe1, DCe2, DDb0, DBc0, DBc1, DDe0]
      refine ⟨(⟨w, h, true, v⟩, p + 2 + 1), ⟨by simp only [Pane.Small]; omega, by simp only []; omega, by simp only []; omega, rfl, rfl, fun _ => rfl, by simp only []; omega, by simp only []; omega⟩, ?_⟩
      (refine wk_le ?_ ?_ ?_; (focus (simp [W8, leTm, leAV, AV.under, underL, rdr, wkc, Pane.cs]; done)); (focus (simp [leL, OB.under, underL, AV.under, rdr, wkc, Pane.cs]; done)); (focus (simp; done)))
    · simp (disch := omega) only [SX0, SX1, SX2, SX3, SX4, SX5, SX6, SX7, SX8, SU0, SY0, SY1, Nat.reduceAdd, Nat.reduceMul, Nat.reduceSub, Nat.reduceLeDiff, Nat.reduceEqDiff, Nat.reduceLT, Nat.reduceBEq, ↓reduceIte, Int.reduceLE, Int.reduceLT, Int.reduceToNat, Int.reduceNeg, reduceCtorEq, Int.reduceEq, SF0, SF1, SF2, DCg0, DCe0, DCe1, DCe2, DDb0, DBc0, DBc1, DDe0]
      refine pick_call hx hl (by omega) rfl fun u hu1 hu2 hu3 => ?_
      simp (disch := omega) only [SX0, SX1, SX2, SX3, SX4, SX5, SX6, SX7, SX8, SU0, SY0, SY1, Nat.reduceAdd, Nat.reduceMul, Nat.reduceSub, Nat.reduceLeDiff, Nat.reduceEqDiff, Nat.reduceLT, Nat.reduceBEq, ↓reduceIte, Int.reduceLE, Int.reduceLT, Int.reduceToNat, Int.reduceNeg, reduceCtorEq, Int.reduceEq, SF0, SF1, SF2, DCg0, DCe0, DCe1, DCe2, DDb0, DBc0, DBc1, DDe0]
      refine pick_call hx hl (by omega) rfl fun v hv1 hv2 hv3 => ?_
      have hv2 := hv2 (by omega)
      simp (disch := omega) only [SX0, SX1, SX2, SX3, SX4, SX5, SX6, SX7, SX8, SU0, SY0, SY1, Nat.reduceAdd, Nat.reduceMul, Nat.reduceSub, Nat.reduceLeDiff, Nat.reduceEqDiff, Nat.reduceLT, Nat.reduceBEq, ↓reduceIte, Int.reduceLE, Int.reduceLT, Int.reduceToNat, Int.reduceNeg, reduceCtorEq, Int.reduceEq, SF0, SF1, SF2, DCg0, DCe0, DCe1, DCe2, DDb0, DBc0, DBc1, DDe0]
      refine ⟨(⟨w, h, decide (u = 0), v⟩, p + 2 + 1 + 1), ⟨by simp only [Pane.Small]; omega, by simp only []; omega, by simp only []; omega, rfl, rfl, ⟨fun hh => absurd (htu.symm.trans hh) (by simp), by simp only []; omega, by simp only []; omega⟩⟩, ?_⟩
      (refine wk_le ?_ ?_ ?_; (focus (simp [W8, leTm, leAV, AV.under, underL, rdr, wkc, Pane.cs]; done)); (focus (simp [leL, OB.under, underL, AV.under, rdr, wkc, Pane.cs]; done)); (focus (simp; done)))
  obtain ⟨g, p2⟩ := g
  simp only at hg
  refine awp_cut (bl := []) T_tt (G := Pane) (fun q => q.Small ∧ q = if tu = true then ⟨h, w, g.Tu, g.Ki⟩ else g) 21 140 (fun _ => [(20, .ptr 4 0)]) (fun g => [rdr xs (p2), wkc W H Ps.length, .vec 4 (Ps.map Pane.cs), .cells [.val (.int .i64 0), .val (.int .i64 0), .val (.int .i64 0), .val (.bool false), .val (.slice none 0 0)], .cells g.cs]) ?_ fun q hq => ?_
  · simp (disch := omega) only [SX0, SX1, SX2, SX3, SX4, SX5, SX6, SX7, SX8, SU0, SY0, SY1, Nat.reduceAdd, Nat.reduceMul, Nat.reduceSub, Nat.reduceLeDiff, Nat.reduceEqDiff, Nat.reduceLT, Nat.reduceBEq, ↓reduceIte, Int.reduceLE, Int.reduceLT, Int.reduceToNat, Int.reduceNeg, reduceCtorEq, Int.reduceEq, SF0, SF1, SF2, DCg0, DCe0, DCe1, DCe2, DDb0, DBc0, DBc1, DDe0]
    refine br_bool (fun htu => ?_) (fun htu => ?_)
    · simp (disch := omega) only [SX0, SX1, SX2, SX3, SX4, SX5, SX6, SX7, SX8, SU0, SY0, SY1, Nat.reduceAdd, Nat.reduceMul, Nat.reduceSub, Nat.reduceLeDiff, Nat.reduceEqDiff, Nat.reduceLT, Nat.reduceBEq, ↓reduceIte, Int.reduceLE, Int.reduceLT, Int.reduceToNat, Int.reduceNeg, reduceCtorEq, Int.reduceEq, SF0, SF1, SF2, DCg0, DCe0, DCe1, DCe2, DDb0, DBc0, DBc1, DDe0, Pane.cs]
      refine ⟨⟨h, w, g.Tu, g.Ki⟩, ⟨by have := hg.1.2.2; simp only [Pane.Small]; omega, by rw [if_pos htu]⟩, ?_⟩
      (refine wk_le ?_ ?_ ?_; (focus (simp [W8, leTm, leAV, AV.under, underL, rdr, wkc, Pane.cs]; done)); (focus (simp [leL, OB.under, underL, AV.under, rdr, wkc, Pane.cs]; done)); (focus (simp; done)))
    · simp (disch := omega) only [SX0, SX1, SX2, SX3, SX4, SX5, SX6, SX7, SX8, SU0, SY0, SY1, Nat.reduceAdd, Nat.reduceMul, Nat.reduceSub, Nat.reduceLeDiff, Nat.reduceEqDiff, Nat.reduceLT, Nat.reduceBEq, ↓reduceIte, Int.reduceLE, Int.reduceLT, Int.reduceToNat, Int.reduceNeg, reduceCtorEq, Int.reduceEq, SF0, SF1, SF2, DCg0, DCe0, DCe1, DCe2, DDb0, DBc0, DBc1, DDe0]
      refine ⟨g, ⟨hg.1, by rw [if_neg (by rw [htu]; simp)]⟩, ?_⟩
      (refine wk_le ?_ ?_ ?_; (focus (simp [W8, leTm, leAV, AV.under, underL, rdr, wkc, Pane.cs]; done)); (focus (simp [leL, OB.under, underL, AV.under, rdr, wkc, Pane.cs]; done)); (focus (simp; done)))
  refine awp_step (bl := []) T_tt ?_
  simp (disch := omega) only [SX0, SX1, SX2, SX3, SX4, SX5, SX6, SX7, SX8, SU0, SY0, SY1, Nat.reduceAdd, Nat.reduceMul, Nat.reduceSub, Nat.reduceLeDiff, Nat.reduceEqDiff, Nat.reduceLT, Nat.reduceBEq, ↓reduceIte, Int.reduceLE, Int.reduceLT, Int.reduceToNat, Int.reduceNeg, reduceCtorEq, Int.reduceEq, SF0, SF1, SF2, DCg0, DCe0, DCe1, DCe2, DDb0, DBc0, DBc1, DDe0]
  refine awp_float (bl := []) T_tt mixed [0, 1, 3, 4] [0, 1, 2, 3, 5, 6] [(4, [(1, .f 161), (2, .f 162), (3, .f 163)]), (7, [(5, .f 165), (6, .f 166)]), (8, [(0, .f 160)]), (9, []), (10, [])] [] (by kernel_rfl) (by kernel_rfl) ?_
  simp (disch := omega) only [SX0, SX1, SX2, SX3, SX4, SX5, SX6, SX7, SX8, SU0, SY0, SY1, Nat.reduceAdd, Nat.reduceMul, Nat.reduceSub, Nat.reduceLeDiff, Nat.reduceEqDiff, Nat.reduceLT, Nat.reduceBEq, ↓reduceIte, Int.reduceLE, Int.reduceLT, Int.reduceToNat, Int.reduceNeg, reduceCtorEq, Int.reduceEq, SF0, SF1, SF2, DCg0, DCe0, DCe1, DCe2, DDb0, DBc0, DBc1, DDe0]
  refine req (by decide) ?_
  simp (disch := omega) only [SX0, SX1, SX2, SX3, SX4, SX5, SX6, SX7, SX8, SU0, SY0, SY1, Nat.reduceAdd, Nat.reduceMul, Nat.reduceSub, Nat.reduceLeDiff, Nat.reduceEqDiff, Nat.reduceLT, Nat.reduceBEq, ↓reduceIte, Int.reduceLE, Int.reduceLT, Int.reduceToNat, Int.reduceNeg, reduceCtorEq, Int.reduceEq, SF0, SF1, SF2, DCg0, DCe0, DCe1, DCe2, DDb0, DBc0, DBc1, DDe0]
  refine req (by omega) ?_
  simp (disch := omega) only [SX0, SX1, SX2, SX3, SX4, SX5, SX6, SX7, SX8, SU0, SY0, SY1, Nat.reduceAdd, Nat.reduceMul, Nat.reduceSub, Nat.reduceLeDiff, Nat.reduceEqDiff, Nat.reduceLT, Nat.reduceBEq, ↓reduceIte, Int.reduceLE, Int.reduceLT, Int.reduceToNat, Int.reduceNeg, reduceCtorEq, Int.reduceEq, SF0, SF1, SF2, DCg0, DCe0, DCe1, DCe2, DDb0, DBc0, DBc1, DDe0]
  refine awp_end (bl := []) T_tt ?_
  simp (disch := omega) only [SX0, SX1, SX2, SX3, SX4, SX5, SX6, SX7, SX8, SU0, SY0, SY1, Nat.reduceAdd, Nat.reduceMul, Nat.reduceSub, Nat.reduceLeDiff, Nat.reduceEqDiff, Nat.reduceLT, Nat.reduceBEq, ↓reduceIte, Int.reduceLE, Int.reduceLT, Int.reduceToNat, Int.reduceNeg, reduceCtorEq, Int.reduceEq, SF0, SF1, SF2, DCg0, DCe0, DCe1, DCe2, DDb0, DBc0, DBc1, DDe0]
  have hGP : GrownP (Plan.mk 1 0 Ps.length tu []) Ps (Ps ++ [q]) w h d := by
    obtain ⟨_, _, _, gW, gH, gT, gK⟩ := hg
    refine GrownP.pane (W0 := W) (H0 := H) d ?_ fun hw2 hh2 x hx' => ?_
    · rw [fills_in (k := ⟨W, H, Ps ++ [q]⟩) (q := q) (by show (Ps ++ [q])[((Ps.length : Nat) : Int).toNat]? = some q; simp) (by omega)]
      rw [hq.2]
      cases tu
      · simp [gW, gH]
      · have := htw rfl
        have := gT rfl
        simp_all
        omega
    · simp at hx'; subst hx'
      rw [hq.2]
      unfold Pane.ok
      split
      · simp only; omega
      · omega
  refine fin_nrm ?_
  simp only [AV.nrm, nrmL]
  exact fin_ks [0, 1, 2] (.agg (Plan.mk 1 0 Ps.length tu []).cs) [rdr xs p2, wkc W H (Ps ++ [q]).length, .vec 4 ((Ps ++ [q]).map Pane.cs)] ⟨_, p2, Ps ++ [q], rfl, rfl, .mk (by omega) (by omega) (by omega) (by simp) (by simp), ⟨by omega, by omega⟩, by simp; omega, fun y hy => by
    rcases List.mem_append.1 hy with hy | hy
    · exact hPq y hy
    · simp at hy; subst hy; exact hq.1, hGP⟩ (by simp [Plan.cs_eq, Plan.op, Plan.at_, Plan.pa, Plan.tu, Plan.ks, AV.ren, renL]) (by simp [keepL, nameK, rdr, wkc, OB.ren, AV.ren]) (by simp) (by simp) (by simp)

end Go.Pc

/- Works and plans that are drawn. -/
namespace Go.Pc
open Go Go.Proofs

def Work.Small (k : Work) : Prop := (-1000 ≤ k.W ∧ k.W ≤ 1000) ∧ (-1000 ≤ k.H ∧ k.H ≤ 1000) ∧ k.Ps.length ≤ 24 ∧ ∀ q ∈ k.Ps, q.Small

/-- What a drawn work and a drawn plan are. -/
def Drawn (xs : List Int) (p m : Int) (r : AV) (L : List OB) : Prop :=
  ∃ (k : Work) (q : Plan) (p' : Int), r = .tup [.agg k.cs, .agg q.cs] ∧ L = [rdr xs p'] ∧ k.Small ∧ q.Small ∧ (p ≤ p' ∧ p' ≤ p + m) ∧ -1 ≤ k.W ∧ k.W ≤ m

theorem picks_le : ∀ d, d ≤ 4 → picks d ≤ 310
  | 0, _ | 1, _ | 2, _ | 3, _ | 4, _ => by decide
  | d + 5, h => by omega

/-- What a drawn work with a valid plan is. -/
def DrawnV (xs : List Int) (p : Int) (r : AV) (L : List OB) : Prop :=
  ∃ (k : Work) (q : Plan) (p' : Int), r = .tup [.agg k.cs, .agg q.cs] ∧ L = [rdr xs p'] ∧ k.Small ∧ q.Small ∧ (p ≤ p' ∧ p' ≤ p + 400) ∧ -1 ≤ k.W ∧ k.W ≤ 400 ∧ q.valid k ∧ q.nodes ≤ 31

theorem e_workPlan : Enters Try.prog 145 := enters_of Try.func145 (by kernel_rfl) (by kernel_rfl)
set_option maxHeartbeats 4000000 in
theorem workPlan_v (xs : List Int) (p : Int) (hx : ∀ x ∈ xs, 0 ≤ x ∧ x < 256) (hl : xs.length ≤ 2000) (hp : 0 ≤ p ∧ p ≤ 900000000) : ACalls Try.prog 145 [.ptr 0 0] [rdr xs p] [0] (DrawnV xs p) := by
  refine acalls_tm T_tt Try.func145 rfl e_workPlan 23 rfl (W8 _ .any .any .any .any .any .any .any (W8 .any .any .any .any .any .any .any .any (W8 .any .any .any .any .any .any .any .any []))) rfl (rv := [.cell 2 25, .cell 3 31]) rfl (sx_sound (bl := []) T_tt _ _ _ ?_)
  simp (disch := omega) only [SX0, SX1, SX2, SX3, SX4, SX5, SX6, SX7, SX8, SU0, SY0, SY1, Nat.reduceAdd, Nat.reduceMul, Nat.reduceSub, Nat.reduceLeDiff, Nat.reduceEqDiff, Nat.reduceLT, Nat.reduceBEq, ↓reduceIte, Int.reduceLE, Int.reduceLT, Int.reduceToNat, Int.reduceNeg, reduceCtorEq, Int.reduceEq, SF0, SF1, SF2, DCg0, DCe0, DCe1, DCe2, DDb0, DBc0, DBc1, DDe0]
  refine one_call hx hl (by omega) (l := [12, 20, 8, 30, 1, 5]) (by simp) rfl rfl fun W hW => ?_
  simp (disch := omega) only [SX0, SX1, SX2, SX3, SX4, SX5, SX6, SX7, SX8, SU0, SY0, SY1, Nat.reduceAdd, Nat.reduceMul, Nat.reduceSub, Nat.reduceLeDiff, Nat.reduceEqDiff, Nat.reduceLT, Nat.reduceBEq, ↓reduceIte, Int.reduceLE, Int.reduceLT, Int.reduceToNat, Int.reduceNeg, reduceCtorEq, Int.reduceEq, SF0, SF1, SF2, DCg0, DCe0, DCe1, DCe2, DDb0, DBc0, DBc1, DDe0]
  refine one_call hx hl (by omega) (l := [10, 16, 6, 20, 1, 9]) (by simp) rfl rfl fun H hH => ?_
  simp (disch := omega) only [SX0, SX1, SX2, SX3, SX4, SX5, SX6, SX7, SX8, SU0, SY0, SY1, Nat.reduceAdd, Nat.reduceMul, Nat.reduceSub, Nat.reduceLeDiff, Nat.reduceEqDiff, Nat.reduceLT, Nat.reduceBEq, ↓reduceIte, Int.reduceLE, Int.reduceLT, Int.reduceToNat, Int.reduceNeg, reduceCtorEq, Int.reduceEq, SF0, SF1, SF2, DCg0, DCe0, DCe1, DCe2, DDb0, DBc0, DBc1, DDe0]
  have hW' : 1 ≤ W ∧ W ≤ 30 := by simp at hW; omega
  have hH' : 1 ≤ H ∧ H ≤ 20 := by simp at hH; omega
  refine awp_wk (wk_nilc 3 2 4 _ (by decide) rfl rfl) ?_
  simp (disch := omega) only [SX0, SX1, SX2, SX3, SX4, SX5, SX6, SX7, SX8, SU0, SY0, SY1, Nat.reduceAdd, Nat.reduceMul, Nat.reduceSub, Nat.reduceLeDiff, Nat.reduceEqDiff, Nat.reduceLT, Nat.reduceBEq, ↓reduceIte, Int.reduceLE, Int.reduceLT, Int.reduceToNat, Int.reduceNeg, reduceCtorEq, Int.reduceEq, SF0, SF1, SF2, DCg0, DCe0, DCe1, DCe2, DDb0, DBc0, DBc1, DDe0]
  refine awp_float (bl := []) T_tt mixed [0, 1, 2, 3] [0, 1, 2, 3, 4, 5, 6] [(7, [(5, .f 18), (6, .f 19)]), (8, [(0, .f 13), (1, .f 14), (2, .f 15), (3, .f 16), (4, .f 17)]), (10, [(9, .a 5 31)])] [] (by kernel_rfl) (by kernel_rfl) ?_
  simp (disch := omega) only [SX0, SX1, SX2, SX3, SX4, SX5, SX6, SX7, SX8, SU0, SY0, SY1, Nat.reduceAdd, Nat.reduceMul, Nat.reduceSub, Nat.reduceLeDiff, Nat.reduceEqDiff, Nat.reduceLT, Nat.reduceBEq, ↓reduceIte, Int.reduceLE, Int.reduceLT, Int.reduceToNat, Int.reduceNeg, reduceCtorEq, Int.reduceEq, SF0, SF1, SF2, DCg0, DCe0, DCe1, DCe2, DDb0, DBc0, DBc1, DDe0]
  refine one_call hx hl (by omega) (l := [3, 2, 4, 1, 0]) (by simp) rfl rfl fun d hd => ?_
  simp (disch := omega) only [SX0, SX1, SX2, SX3, SX4, SX5, SX6, SX7, SX8, SU0, SY0, SY1, Nat.reduceAdd, Nat.reduceMul, Nat.reduceSub, Nat.reduceLeDiff, Nat.reduceEqDiff, Nat.reduceLT, Nat.reduceBEq, ↓reduceIte, Int.reduceLE, Int.reduceLT, Int.reduceToNat, Int.reduceNeg, reduceCtorEq, Int.reduceEq, SF0, SF1, SF2, DCg0, DCe0, DCe1, DCe2, DDb0, DBc0, DBc1, DDe0]
  have hd' : 0 ≤ d ∧ d ≤ 4 := by simp at hd; omega
  obtain ⟨n, rfl⟩ : ∃ n : Nat, d = n := ⟨d.toNat, by omega⟩
  have hpk := picks_le n (by omega)
  have g1 := grow_c xs hx hl W H n (p + 1 + 1 + 1) W H [] (by omega) (by omega) (by omega) (by simp) (by simp) (by omega)
  refine acall_own g1 [0, 3, 4] [4] (by simp only [SX0, SX1, SX2, SX3, SX4, SX5, SX6, SX7, SX8, SU0, SY0, SY1, Nat.reduceAdd, Nat.reduceMul, Nat.reduceSub, Nat.reduceLeDiff, Nat.reduceEqDiff, Nat.reduceLT, Nat.reduceBEq, ↓reduceIte, Int.reduceLE, Int.reduceLT, Int.reduceToNat, Int.reduceNeg, reduceCtorEq, Int.reduceEq, SF0, SF1, SF2, DCg0, DCe0, DCe1, DCe2, DDb0, DBc0, DBc1, DDe0, SX0]) (by decide) (by decide) (by rfl) (by simp only [SX0, SX1, SX2, SX3, SX4, SX5, SX6, SX7, SX8, SU0, SY0, SY1, Nat.reduceAdd, Nat.reduceMul, Nat.reduceSub, Nat.reduceLeDiff, Nat.reduceEqDiff, Nat.reduceLT, Nat.reduceBEq, ↓reduceIte, Int.reduceLE, Int.reduceLT, Int.reduceToNat, Int.reduceNeg, reduceCtorEq, Int.reduceEq, SF0, SF1, SF2, DCg0, DCe0, DCe1, DCe2, DDb0, DBc0, DBc1, DDe0, SX0]) ?_
  rintro _ _ ⟨q, p', Ps, rfl, rfl, hq, hp', hPs, hPq, w1, n1, ⟨t, ht, o1⟩, f1⟩
  have hpw := Nat.pow_le_pow_right (n := 2) (by omega) (show n + 1 ≤ 5 by omega)
  have f2 := f1 [] W H
  rw [List.append_nil] at f2
  rw [List.nil_append] at ht
  have hv : q.valid ⟨W, H, Ps⟩ := ⟨⟨by simp only []; omega, by simp only []; omega, by subst ht; exact o1 (by omega) (by omega), hPs⟩, ⟨w1, by omega⟩, f2⟩
  simp (disch := omega) only [SX0, SX1, SX2, SX3, SX4, SX5, SX6, SX7, SX8, SU0, SY0, SY1, Nat.reduceAdd, Nat.reduceMul, Nat.reduceSub, Nat.reduceLeDiff, Nat.reduceEqDiff, Nat.reduceLT, Nat.reduceBEq, ↓reduceIte, Int.reduceLE, Int.reduceLT, Int.reduceToNat, Int.reduceNeg, reduceCtorEq, Int.reduceEq, SF0, SF1, SF2, DCg0, DCe0, DCe1, DCe2, DDb0, DBc0, DBc1, DDe0]
  refine awp_float (bl := []) T_tt mixed [0, 1, 2, 3, 4, 5] [0, 1] [(2, [(0, .f 22)]), (3, [(1, .f 23)])] [] (by kernel_rfl) (by kernel_rfl) ?_
  simp (disch := omega) only [SX0, SX1, SX2, SX3, SX4, SX5, SX6, SX7, SX8, SU0, SY0, SY1, Nat.reduceAdd, Nat.reduceMul, Nat.reduceSub, Nat.reduceLeDiff, Nat.reduceEqDiff, Nat.reduceLT, Nat.reduceBEq, ↓reduceIte, Int.reduceLE, Int.reduceLT, Int.reduceToNat, Int.reduceNeg, reduceCtorEq, Int.reduceEq, SF0, SF1, SF2, DCg0, DCe0, DCe1, DCe2, DDb0, DBc0, DBc1, DDe0]
  refine fin_frz (r := 4) (k := 4) rfl (by simp) ?_
  simp only [AV.frz, frzL, if_true, Nat.zero_add, true_and, List.length_map, Nat.le_refl, List.drop_zero, freeL_frz _ _ _ q.free]
  rw [List.take_of_length_le (by simp)]
  exact fin_zero (.tup [.agg (Work.mk W H Ps).cs, .agg q.cs]) (rdr xs p') ⟨⟨W, H, Ps⟩, q, p', rfl, rfl, ⟨by simp only []; omega, by simp only []; omega, hPs, hPq⟩, hq, ⟨by omega, by omega⟩, by simp only []; omega, by simp only []; omega, hv, by omega⟩ (by simp [AV.ren, renL, Work.cs, Plan.rend]) (by rw [rdr_ren]; simp [AS.frz, OB.frz, AV.frz, rdr]) (by simp) (by simp)

theorem workPlan_c (xs : List Int) (p : Int) (hx : ∀ x ∈ xs, 0 ≤ x ∧ x < 256) (hl : xs.length ≤ 2000) (hp : 0 ≤ p ∧ p ≤ 900000000) : ACalls Try.prog 145 [.ptr 0 0] [rdr xs p] [0] (Drawn xs p 400) :=
  (workPlan_v xs p hx hl hp).mono fun r L ⟨k, q, p', h1, h2, h3, h4, h5, h6, h7, _⟩ => ⟨k, q, p', h1, h2, h3, h4, h5, h6, h7⟩

theorem Plan.small_iff (q : Plan) : q.Small ↔ (-1000 ≤ q.op ∧ q.op ≤ 1000) ∧ (-1000 ≤ q.at_ ∧ q.at_ ≤ 1000) ∧ (-1000 ≤ q.pa ∧ q.pa ≤ 1000) ∧ q.ks.length ≤ 2 ∧ ∀ x ∈ q.ks, x.Small :=
  ⟨fun h => by cases h with | mk h1 h2 h3 h4 h5 => exact ⟨h1, h2, h3, h4, h5⟩, fun h => by cases q; exact .mk h.1 h.2.1 h.2.2.1 h.2.2.2.1 h.2.2.2.2⟩

theorem e_anyPlan : Enters Try.prog 147 := enters_of Try.func147 (by kernel_rfl) (by kernel_rfl)
set_option maxHeartbeats 4000000 in
theorem anyPlan_c (xs : List Int) (p : Int) (hx : ∀ x ∈ xs, 0 ≤ x ∧ x < 256) (hl : xs.length ≤ 2000) (hp : 0 ≤ p ∧ p ≤ 800000000) : ACalls Try.prog 147 [.ptr 0 0] [rdr xs p] [0] (Drawn xs p 500) := by
  refine acalls_tm T_tt Try.func147 rfl e_anyPlan 57 rfl (W8 _ .any .any .any .any .any .any .any (W8 .any .any .any .any .any .any .any .any (W8 .any .any .any .any .any .any .any .any (W8 .any .any .any .any .any .any .any .any (W8 .any .any .any .any .any .any .any .any (W8 .any .any .any .any .any .any .any .any (W8 .any .any .any .any .any .any .any .any [.any, .any]))))))) rfl (rv := [.cell 2 25, .cell 3 31]) rfl ?_
  refine awp_step (bl := []) T_tt ?_
  simp (disch := omega) only [SX0, SX1, SX2, SX3, SX4, SX5, SX6, SX7, SX8, SU0, SY0, SY1, Nat.reduceAdd, Nat.reduceMul, Nat.reduceSub, Nat.reduceLeDiff, Nat.reduceEqDiff, Nat.reduceLT, Nat.reduceBEq, ↓reduceIte, Int.reduceLE, Int.reduceLT, Int.reduceToNat, Int.reduceNeg, reduceCtorEq, Int.reduceEq, SF0, SF1, SF2, DCg0, DCe0, DCe1, DCe2, DDb0, DBc0, DBc1, DDe0]
  refine awp_step (bl := []) T_tt ?_
  simp (disch := omega) only [SX0, SX1, SX2, SX3, SX4, SX5, SX6, SX7, SX8, SU0, SY0, SY1, Nat.reduceAdd, Nat.reduceMul, Nat.reduceSub, Nat.reduceLeDiff, Nat.reduceEqDiff, Nat.reduceLT, Nat.reduceBEq, ↓reduceIte, Int.reduceLE, Int.reduceLT, Int.reduceToNat, Int.reduceNeg, reduceCtorEq, Int.reduceEq, SF0, SF1, SF2, DCg0, DCe0, DCe1, DCe2, DDb0, DBc0, DBc1, DDe0]
  refine acall_own (workPlan_c xs p hx hl (by omega)) [0] [] (by simp only [SX0, SX1, SX2, SX3, SX4, SX5, SX6, SX7, SX8, SU0, SY0, SY1, Nat.reduceAdd, Nat.reduceMul, Nat.reduceSub, Nat.reduceLeDiff, Nat.reduceEqDiff, Nat.reduceLT, Nat.reduceBEq, ↓reduceIte, Int.reduceLE, Int.reduceLT, Int.reduceToNat, Int.reduceNeg, reduceCtorEq, Int.reduceEq, SF0, SF1, SF2, DCg0, DCe0, DCe1, DCe2, DDb0, DBc0, DBc1, DDe0, SX0]) (by decide) (by decide) (by rfl) (by simp only [SX0, SX1, SX2, SX3, SX4, SX5, SX6, SX7, SX8, SU0, SY0, SY1, Nat.reduceAdd, Nat.reduceMul, Nat.reduceSub, Nat.reduceLeDiff, Nat.reduceEqDiff, Nat.reduceLT, Nat.reduceBEq, ↓reduceIte, Int.reduceLE, Int.reduceLT, Int.reduceToNat, Int.reduceNeg, reduceCtorEq, Int.reduceEq, SF0, SF1, SF2, DCg0, DCe0, DCe1, DCe2, DDb0, DBc0, DBc1, DDe0, SX0]) ?_
  rintro _ _ ⟨k, q, p1, rfl, rfl, hk, hq, hp1, hkw⟩
  simp (disch := omega) only [SX0, SX1, SX2, SX3, SX4, SX5, SX6, SX7, SX8, SU0, SY0, SY1, Nat.reduceAdd, Nat.reduceMul, Nat.reduceSub, Nat.reduceLeDiff, Nat.reduceEqDiff, Nat.reduceLT, Nat.reduceBEq, ↓reduceIte, Int.reduceLE, Int.reduceLT, Int.reduceToNat, Int.reduceNeg, reduceCtorEq, Int.reduceEq, SF0, SF1, SF2, DCg0, DCe0, DCe1, DCe2, DDb0, DBc0, DBc1, DDe0]
  have hqs := (Plan.small_iff q).1 hq
  obtain ⟨o1, o2, o3, o4, o5⟩ := (Plan.small_iff q).1 hq
  obtain ⟨kw, kh, _⟩ := id hk
  refine awp_cut (bl := []) T_tt (G := Work × Plan × Int) (fun g => g.1.Small ∧ g.2.1.Small ∧ (p ≤ g.2.2 ∧ g.2.2 ≤ p + 500) ∧ -1 ≤ g.1.W ∧ g.1.W ≤ 500) 6 52 (fun _ => []) (fun g => [rdr xs g.2.2, .cells [.val (.int .i64 0), .val (.int .i64 0), .val (.slice none 0 0)], .cells [.val (.int .i64 0), .val (.int .i64 0), .val (.int .i64 0), .val (.bool false), .val (.slice none 0 0)], .cells g.1.cs, .cells g.2.1.cs]) ?_ fun g hg => ?_
  · simp (disch := omega) only [SX0, SX1, SX2, SX3, SX4, SX5, SX6, SX7, SX8, SU0, SY0, SY1, Nat.reduceAdd, Nat.reduceMul, Nat.reduceSub, Nat.reduceLeDiff, Nat.reduceEqDiff, Nat.reduceLT, Nat.reduceBEq, ↓reduceIte, Int.reduceLE, Int.reduceLT, Int.reduceToNat, Int.reduceNeg, reduceCtorEq, Int.reduceEq, SF0, SF1, SF2, DCg0, DCe0, DCe1, DCe2, DDb0, DBc0, DBc1, DDe0]
    refine pick_call hx hl (by omega) rfl fun c hc1 hc2 hc3 => ?_
    simp (disch := omega) only [SX0, SX1, SX2, SX3, SX4, SX5, SX6, SX7, SX8, SU0, SY0, SY1, Nat.reduceAdd, Nat.reduceMul, Nat.reduceSub, Nat.reduceLeDiff, Nat.reduceEqDiff, Nat.reduceLT, Nat.reduceBEq, ↓reduceIte, Int.reduceLE, Int.reduceLT, Int.reduceToNat, Int.reduceNeg, reduceCtorEq, Int.reduceEq, SF0, SF1, SF2, DCg0, DCe0, DCe1, DCe2, DDb0, DBc0, DBc1, DDe0]
    refine br_dec (fun h0 => ?_) (fun h0 => ?_)
    · simp (disch := omega) only [SX0, SX1, SX2, SX3, SX4, SX5, SX6, SX7, SX8, SU0, SY0, SY1, Nat.reduceAdd, Nat.reduceMul, Nat.reduceSub, Nat.reduceLeDiff, Nat.reduceEqDiff, Nat.reduceLT, Nat.reduceBEq, ↓reduceIte, Int.reduceLE, Int.reduceLT, Int.reduceToNat, Int.reduceNeg, reduceCtorEq, Int.reduceEq, SF0, SF1, SF2, DCg0, DCe0, DCe1, DCe2, DDb0, DBc0, DBc1, DDe0]
      refine one_call hx hl (by omega) (l := [0, 201, k.W + 1]) (by simp) rfl rfl fun v hv => ?_
      have hv' : -1 ≤ v ∧ v ≤ 500 := by simp at hv; omega
      simp (disch := omega) only [SX0, SX1, SX2, SX3, SX4, SX5, SX6, SX7, SX8, SU0, SY0, SY1, Nat.reduceAdd, Nat.reduceMul, Nat.reduceSub, Nat.reduceLeDiff, Nat.reduceEqDiff, Nat.reduceLT, Nat.reduceBEq, ↓reduceIte, Int.reduceLE, Int.reduceLT, Int.reduceToNat, Int.reduceNeg, reduceCtorEq, Int.reduceEq, SF0, SF1, SF2, DCg0, DCe0, DCe1, DCe2, DDb0, DBc0, DBc1, DDe0, Work.cs]
      refine ⟨(⟨v, k.H, k.Ps⟩, q, p1 + 1 + 1), ⟨⟨⟨by show -1000 ≤ v; omega, by show v ≤ 1000; omega⟩, hk.2⟩, hq, by simp only []; omega, by simp only []; omega⟩, ?_⟩
      (refine wk_le ?_ ?_ ?_; (focus (simp [W8, leTm, leAV, AV.under, underL, rdr, Work.under, Plan.under, Work.cs, Plan.cs_eq, Plan.op, Plan.at_, Plan.pa, Plan.tu, Plan.ks]; done)); (focus (simp [leL, OB.under, underL, AV.under, rdr, Work.under, Plan.under, Work.cs, Plan.cs_eq, Plan.op, Plan.at_, Plan.pa, Plan.tu, Plan.ks]; done)); (focus (simp; done)))
    simp (disch := omega) only [SX0, SX1, SX2, SX3, SX4, SX5, SX6, SX7, SX8, SU0, SY0, SY1, Nat.reduceAdd, Nat.reduceMul, Nat.reduceSub, Nat.reduceLeDiff, Nat.reduceEqDiff, Nat.reduceLT, Nat.reduceBEq, ↓reduceIte, Int.reduceLE, Int.reduceLT, Int.reduceToNat, Int.reduceNeg, reduceCtorEq, Int.reduceEq, SF0, SF1, SF2, DCg0, DCe0, DCe1, DCe2, DDb0, DBc0, DBc1, DDe0]
    refine br_dec (fun h1 => ?_) (fun h1 => ?_)
    · simp (disch := omega) only [SX0, SX1, SX2, SX3, SX4, SX5, SX6, SX7, SX8, SU0, SY0, SY1, Nat.reduceAdd, Nat.reduceMul, Nat.reduceSub, Nat.reduceLeDiff, Nat.reduceEqDiff, Nat.reduceLT, Nat.reduceBEq, ↓reduceIte, Int.reduceLE, Int.reduceLT, Int.reduceToNat, Int.reduceNeg, reduceCtorEq, Int.reduceEq, SF0, SF1, SF2, DCg0, DCe0, DCe1, DCe2, DDb0, DBc0, DBc1, DDe0]
      refine one_call hx hl (by omega) (l := [0, 200, -1]) (by simp) rfl rfl fun v hv => ?_
      have hv' : -1 ≤ v ∧ v ≤ 500 := by simp at hv; omega
      simp (disch := omega) only [SX0, SX1, SX2, SX3, SX4, SX5, SX6, SX7, SX8, SU0, SY0, SY1, Nat.reduceAdd, Nat.reduceMul, Nat.reduceSub, Nat.reduceLeDiff, Nat.reduceEqDiff, Nat.reduceLT, Nat.reduceBEq, ↓reduceIte, Int.reduceLE, Int.reduceLT, Int.reduceToNat, Int.reduceNeg, reduceCtorEq, Int.reduceEq, SF0, SF1, SF2, DCg0, DCe0, DCe1, DCe2, DDb0, DBc0, DBc1, DDe0, Plan.cs_eq]
      refine ⟨(k, Plan.mk q.op v q.pa q.tu q.ks, p1 + 1 + 1), ⟨hk, Plan.Small.mk (by omega) (by omega) (by omega) o4 o5, by simp only []; omega, by simp only []; omega⟩, ?_⟩
      (refine wk_le ?_ ?_ ?_; (focus (simp [W8, leTm, leAV, AV.under, underL, rdr, Work.under, Plan.under, Work.cs, Plan.cs_eq, Plan.op, Plan.at_, Plan.pa, Plan.tu, Plan.ks]; done)); (focus (simp [leL, OB.under, underL, AV.under, rdr, Work.under, Plan.under, Work.cs, Plan.cs_eq, Plan.op, Plan.at_, Plan.pa, Plan.tu, Plan.ks]; done)); (focus (simp; done)))
    simp (disch := omega) only [SX0, SX1, SX2, SX3, SX4, SX5, SX6, SX7, SX8, SU0, SY0, SY1, Nat.reduceAdd, Nat.reduceMul, Nat.reduceSub, Nat.reduceLeDiff, Nat.reduceEqDiff, Nat.reduceLT, Nat.reduceBEq, ↓reduceIte, Int.reduceLE, Int.reduceLT, Int.reduceToNat, Int.reduceNeg, reduceCtorEq, Int.reduceEq, SF0, SF1, SF2, DCg0, DCe0, DCe1, DCe2, DDb0, DBc0, DBc1, DDe0]
    refine br_dec (fun h2 => ?_) (fun h2 => ?_)
    · simp (disch := omega) only [SX0, SX1, SX2, SX3, SX4, SX5, SX6, SX7, SX8, SU0, SY0, SY1, Nat.reduceAdd, Nat.reduceMul, Nat.reduceSub, Nat.reduceLeDiff, Nat.reduceEqDiff, Nat.reduceLT, Nat.reduceBEq, ↓reduceIte, Int.reduceLE, Int.reduceLT, Int.reduceToNat, Int.reduceNeg, reduceCtorEq, Int.reduceEq, SF0, SF1, SF2, DCg0, DCe0, DCe1, DCe2, DDb0, DBc0, DBc1, DDe0]
      refine one_call hx hl (by omega) (l := [4, -1, 1, 0]) (by simp) rfl rfl fun v hv => ?_
      have hv' : -1 ≤ v ∧ v ≤ 500 := by simp at hv; omega
      simp (disch := omega) only [SX0, SX1, SX2, SX3, SX4, SX5, SX6, SX7, SX8, SU0, SY0, SY1, Nat.reduceAdd, Nat.reduceMul, Nat.reduceSub, Nat.reduceLeDiff, Nat.reduceEqDiff, Nat.reduceLT, Nat.reduceBEq, ↓reduceIte, Int.reduceLE, Int.reduceLT, Int.reduceToNat, Int.reduceNeg, reduceCtorEq, Int.reduceEq, SF0, SF1, SF2, DCg0, DCe0, DCe1, DCe2, DDb0, DBc0, DBc1, DDe0, Plan.cs_eq]
      refine ⟨(k, Plan.mk v q.at_ q.pa q.tu q.ks, p1 + 1 + 1), ⟨hk, Plan.Small.mk (by omega) (by omega) (by omega) o4 o5, by simp only []; omega, by simp only []; omega⟩, ?_⟩
      (refine wk_le ?_ ?_ ?_; (focus (simp [W8, leTm, leAV, AV.under, underL, rdr, Work.under, Plan.under, Work.cs, Plan.cs_eq, Plan.op, Plan.at_, Plan.pa, Plan.tu, Plan.ks]; done)); (focus (simp [leL, OB.under, underL, AV.under, rdr, Work.under, Plan.under, Work.cs, Plan.cs_eq, Plan.op, Plan.at_, Plan.pa, Plan.tu, Plan.ks]; done)); (focus (simp; done)))
    simp (disch := omega) only [SX0, SX1, SX2, SX3, SX4, SX5, SX6, SX7, SX8, SU0, SY0, SY1, Nat.reduceAdd, Nat.reduceMul, Nat.reduceSub, Nat.reduceLeDiff, Nat.reduceEqDiff, Nat.reduceLT, Nat.reduceBEq, ↓reduceIte, Int.reduceLE, Int.reduceLT, Int.reduceToNat, Int.reduceNeg, reduceCtorEq, Int.reduceEq, SF0, SF1, SF2, DCg0, DCe0, DCe1, DCe2, DDb0, DBc0, DBc1, DDe0]
    refine br_dec (fun h3 => ?_) (fun h3 => ?_)
    · simp (disch := omega) only [SX0, SX1, SX2, SX3, SX4, SX5, SX6, SX7, SX8, SU0, SY0, SY1, Nat.reduceAdd, Nat.reduceMul, Nat.reduceSub, Nat.reduceLeDiff, Nat.reduceEqDiff, Nat.reduceLT, Nat.reduceBEq, ↓reduceIte, Int.reduceLE, Int.reduceLT, Int.reduceToNat, Int.reduceNeg, reduceCtorEq, Int.reduceEq, SF0, SF1, SF2, DCg0, DCe0, DCe1, DCe2, DDb0, DBc0, DBc1, DDe0]
      refine br_dec (fun h4 => ?_) (fun h4 => ?_)
      · simp (disch := omega) only [SX0, SX1, SX2, SX3, SX4, SX5, SX6, SX7, SX8, SU0, SY0, SY1, Nat.reduceAdd, Nat.reduceMul, Nat.reduceSub, Nat.reduceLeDiff, Nat.reduceEqDiff, Nat.reduceLT, Nat.reduceBEq, ↓reduceIte, Int.reduceLE, Int.reduceLT, Int.reduceToNat, Int.reduceNeg, reduceCtorEq, Int.reduceEq, SF0, SF1, SF2, DCg0, DCe0, DCe1, DCe2, DDb0, DBc0, DBc1, DDe0]
        refine req ⟨by omega, fun c hc => ?_⟩ ?_
        · cases hq0 : q.ks[0]? with
          | none => simp [hq0] at hc
          | some x => simp [hq0] at hc; subst hc; exact x.len
        simp (disch := omega) only [SX0, SX1, SX2, SX3, SX4, SX5, SX6, SX7, SX8, SU0, SY0, SY1, Nat.reduceAdd, Nat.reduceMul, Nat.reduceSub, Nat.reduceLeDiff, Nat.reduceEqDiff, Nat.reduceLT, Nat.reduceBEq, ↓reduceIte, Int.reduceLE, Int.reduceLT, Int.reduceToNat, Int.reduceNeg, reduceCtorEq, Int.reduceEq, SF0, SF1, SF2, DCg0, DCe0, DCe1, DCe2, DDb0, DBc0, DBc1, DDe0, Plan.cs_eq]
        refine ⟨(k, Plan.mk q.op q.at_ q.pa q.tu (q.ks.take 1), p1 + 1), ⟨hk, (Plan.small_iff _).2 ⟨o1, o2, o3, by simp only [Plan.ks]; rw [List.length_take]; omega, fun x hx => o5 x (List.mem_of_mem_take hx)⟩, by simp only []; omega, by simp only []; omega⟩, ?_⟩
        (refine wk_le ?_ ?_ ?_; (focus (simp [W8, leTm, leAV, AV.under, underL, rdr, Work.under, Plan.under, Work.cs, Plan.cs_eq, Plan.op, Plan.at_, Plan.pa, Plan.tu, Plan.ks, List.map_take]; done)); (focus (simp [leL, OB.under, underL, AV.under, rdr, Work.under, Plan.under, Work.cs, Plan.cs_eq, Plan.op, Plan.at_, Plan.pa, Plan.tu, Plan.ks, List.map_take]; done)); (focus (simp; done)))
      · simp (disch := omega) only [SX0, SX1, SX2, SX3, SX4, SX5, SX6, SX7, SX8, SU0, SY0, SY1, Nat.reduceAdd, Nat.reduceMul, Nat.reduceSub, Nat.reduceLeDiff, Nat.reduceEqDiff, Nat.reduceLT, Nat.reduceBEq, ↓reduceIte, Int.reduceLE, Int.reduceLT, Int.reduceToNat, Int.reduceNeg, reduceCtorEq, Int.reduceEq, SF0, SF1, SF2, DCg0, DCe0, DCe1, DCe2, DDb0, DBc0, DBc1, DDe0]
        refine ⟨(k, q, p1 + 1), ⟨hk, hq, by simp only []; omega, by simp only []; omega⟩, ?_⟩
        (refine wk_le ?_ ?_ ?_; (focus (simp [W8, leTm, leAV, AV.under, underL, rdr, Work.under, Plan.under]; done)); (focus (simp [leL, OB.under, underL, AV.under, rdr, Work.under, Plan.under]; done)); (focus (simp; done)))
    simp (disch := omega) only [SX0, SX1, SX2, SX3, SX4, SX5, SX6, SX7, SX8, SU0, SY0, SY1, Nat.reduceAdd, Nat.reduceMul, Nat.reduceSub, Nat.reduceLeDiff, Nat.reduceEqDiff, Nat.reduceLT, Nat.reduceBEq, ↓reduceIte, Int.reduceLE, Int.reduceLT, Int.reduceToNat, Int.reduceNeg, reduceCtorEq, Int.reduceEq, SF0, SF1, SF2, DCg0, DCe0, DCe1, DCe2, DDb0, DBc0, DBc1, DDe0]
    refine br_dec (fun h4 => ?_) (fun h4 => ?_)
    · simp (disch := omega) only [SX0, SX1, SX2, SX3, SX4, SX5, SX6, SX7, SX8, SU0, SY0, SY1, Nat.reduceAdd, Nat.reduceMul, Nat.reduceSub, Nat.reduceLeDiff, Nat.reduceEqDiff, Nat.reduceLT, Nat.reduceBEq, ↓reduceIte, Int.reduceLE, Int.reduceLT, Int.reduceToNat, Int.reduceNeg, reduceCtorEq, Int.reduceEq, SF0, SF1, SF2, DCg0, DCe0, DCe1, DCe2, DDb0, DBc0, DBc1, DDe0]
      refine one_call hx hl (by omega) (l := [1, 30, -1]) (by simp) rfl rfl fun v hv => ?_
      have hv' : -1 ≤ v ∧ v ≤ 500 := by simp at hv; omega
      simp (disch := omega) only [SX0, SX1, SX2, SX3, SX4, SX5, SX6, SX7, SX8, SU0, SY0, SY1, Nat.reduceAdd, Nat.reduceMul, Nat.reduceSub, Nat.reduceLeDiff, Nat.reduceEqDiff, Nat.reduceLT, Nat.reduceBEq, ↓reduceIte, Int.reduceLE, Int.reduceLT, Int.reduceToNat, Int.reduceNeg, reduceCtorEq, Int.reduceEq, SF0, SF1, SF2, DCg0, DCe0, DCe1, DCe2, DDb0, DBc0, DBc1, DDe0, Plan.cs_eq]
      refine ⟨(k, Plan.mk q.op q.at_ v q.tu q.ks, p1 + 1 + 1), ⟨hk, Plan.Small.mk (by omega) (by omega) (by omega) o4 o5, by simp only []; omega, by simp only []; omega⟩, ?_⟩
      (refine wk_le ?_ ?_ ?_; (focus (simp [W8, leTm, leAV, AV.under, underL, rdr, Work.under, Plan.under, Work.cs, Plan.cs_eq, Plan.op, Plan.at_, Plan.pa, Plan.tu, Plan.ks]; done)); (focus (simp [leL, OB.under, underL, AV.under, rdr, Work.under, Plan.under, Work.cs, Plan.cs_eq, Plan.op, Plan.at_, Plan.pa, Plan.tu, Plan.ks]; done)); (focus (simp; done)))
    simp (disch := omega) only [SX0, SX1, SX2, SX3, SX4, SX5, SX6, SX7, SX8, SU0, SY0, SY1, Nat.reduceAdd, Nat.reduceMul, Nat.reduceSub, Nat.reduceLeDiff, Nat.reduceEqDiff, Nat.reduceLT, Nat.reduceBEq, ↓reduceIte, Int.reduceLE, Int.reduceLT, Int.reduceToNat, Int.reduceNeg, reduceCtorEq, Int.reduceEq, SF0, SF1, SF2, DCg0, DCe0, DCe1, DCe2, DDb0, DBc0, DBc1, DDe0]
    refine br_dec (fun h5 => ?_) (fun h5 => ?_)
    · simp (disch := omega) only [SX0, SX1, SX2, SX3, SX4, SX5, SX6, SX7, SX8, SU0, SY0, SY1, Nat.reduceAdd, Nat.reduceMul, Nat.reduceSub, Nat.reduceLeDiff, Nat.reduceEqDiff, Nat.reduceLT, Nat.reduceBEq, ↓reduceIte, Int.reduceLE, Int.reduceLT, Int.reduceToNat, Int.reduceNeg, reduceCtorEq, Int.reduceEq, SF0, SF1, SF2, DCg0, DCe0, DCe1, DCe2, DDb0, DBc0, DBc1, DDe0, Plan.cs_eq]
      refine ⟨(k, Plan.mk q.op q.at_ q.pa (!q.tu) q.ks, p1 + 1), ⟨hk, Plan.Small.mk (by omega) (by omega) (by omega) o4 o5, by simp only []; omega, by simp only []; omega⟩, ?_⟩
      (refine wk_le ?_ ?_ ?_; (focus (simp [W8, leTm, leAV, AV.under, underL, rdr, Work.under, Plan.under, Work.cs, Plan.cs_eq, Plan.op, Plan.at_, Plan.pa, Plan.tu, Plan.ks]; done)); (focus (simp [leL, OB.under, underL, AV.under, rdr, Work.under, Plan.under, Work.cs, Plan.cs_eq, Plan.op, Plan.at_, Plan.pa, Plan.tu, Plan.ks]; done)); (focus (simp; done)))
    · simp (disch := omega) only [SX0, SX1, SX2, SX3, SX4, SX5, SX6, SX7, SX8, SU0, SY0, SY1, Nat.reduceAdd, Nat.reduceMul, Nat.reduceSub, Nat.reduceLeDiff, Nat.reduceEqDiff, Nat.reduceLT, Nat.reduceBEq, ↓reduceIte, Int.reduceLE, Int.reduceLT, Int.reduceToNat, Int.reduceNeg, reduceCtorEq, Int.reduceEq, SF0, SF1, SF2, DCg0, DCe0, DCe1, DCe2, DDb0, DBc0, DBc1, DDe0]
      refine ⟨(k, q, p1 + 1), ⟨hk, hq, by simp only []; omega, by simp only []; omega⟩, ?_⟩
      (refine wk_le ?_ ?_ ?_; (focus (simp [W8, leTm, leAV, AV.under, underL, rdr, Work.under, Plan.under]; done)); (focus (simp [leL, OB.under, underL, AV.under, rdr, Work.under, Plan.under]; done)); (focus (simp; done)))
  obtain ⟨k2, q2, p2⟩ := g
  simp only at hg
  refine awp_end (bl := []) T_tt ?_
  simp (disch := omega) only [SX0, SX1, SX2, SX3, SX4, SX5, SX6, SX7, SX8, SU0, SY0, SY1, Nat.reduceAdd, Nat.reduceMul, Nat.reduceSub, Nat.reduceLeDiff, Nat.reduceEqDiff, Nat.reduceLT, Nat.reduceBEq, ↓reduceIte, Int.reduceLE, Int.reduceLT, Int.reduceToNat, Int.reduceNeg, reduceCtorEq, Int.reduceEq, SF0, SF1, SF2, DCg0, DCe0, DCe1, DCe2, DDb0, DBc0, DBc1, DDe0]
  refine awp_float (bl := []) T_tt mixed [0, 1, 2, 3, 4] [0, 1] [(2, [(0, .f 56)]), (3, [(1, .f 57)])] [] (by kernel_rfl) (by kernel_rfl) ?_
  simp (disch := omega) only [SX0, SX1, SX2, SX3, SX4, SX5, SX6, SX7, SX8, SU0, SY0, SY1, Nat.reduceAdd, Nat.reduceMul, Nat.reduceSub, Nat.reduceLeDiff, Nat.reduceEqDiff, Nat.reduceLT, Nat.reduceBEq, ↓reduceIte, Int.reduceLE, Int.reduceLT, Int.reduceToNat, Int.reduceNeg, reduceCtorEq, Int.reduceEq, SF0, SF1, SF2, DCg0, DCe0, DCe1, DCe2, DDb0, DBc0, DBc1, DDe0]
  exact fin_zero (.tup [.agg k2.cs, .agg q2.cs]) (rdr xs p2) ⟨k2, q2, p2, rfl, rfl, hg⟩ (by simp [AV.ren, renL, Work.rend, Plan.rend]) (by rw [rdr_ren]; rfl) (by simp) (by simp)

end Go.Pc

/- What is drawn for the law of parts. -/
namespace Go.Pc
open Go Go.Proofs

theorem take_byte {xs : List Int} (hx : ∀ x ∈ xs, 0 ≤ x ∧ x < 256) : ∀ x ∈ xs.take 2000, 0 ≤ x ∧ x < 256 := fun x h => hx x (List.mem_of_mem_take h)

end Go.Pc
