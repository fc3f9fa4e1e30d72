/- Plans that are grown at random. -/
import Derived.Test.YtliephdcfkiapaaCg
set_option linter.unusedSimpArgs false
set_option linter.unusedVariables false
namespace Go.Pc
open Go Go.Proofs

/-- Numbers of a plan are small. -/
inductive Plan.Small : Plan → Prop
  | mk {op at_ pa : Int} {tu : Bool} {ks : List Plan} (h1 : -1000 ≤ op ∧ op ≤ 1000) (h2 : -1000 ≤ at_ ∧ at_ ≤ 1000) (h3 : -1000 ≤ pa ∧ pa ≤ 1000) (h4 : ks.length ≤ 2) (h5 : ∀ q ∈ ks, q.Small) : Small (.mk op at_ pa tu ks)

def Pane.Small (q : Pane) : Prop := (-1000 ≤ q.W ∧ q.W ≤ 1000) ∧ (-1000 ≤ q.H ∧ q.H ≤ 1000) ∧ (-1000 ≤ q.Ki ∧ q.Ki ≤ 1000)

/-- A work whose panes lie in an own row. -/
def wkc (W H : Int) (n : Nat) : OB := .cells [.val (.int .i64 W), .val (.int .i64 H), .os 2 4 0 n]

def picks : Nat → Int
  | 0 => 10
  | n + 1 => 10 + 2 * picks n

/-- What grow leaves. -/
def Grown (xs : List Int) (p W H : Int) (d : Nat) (r : AV) (L : List OB) : Prop :=
  ∃ (q : Plan) (p' : Int) (Ps : List Pane), r = .agg q.cs ∧ L = [rdr xs p', wkc W H Ps.length, .vec 4 (Ps.map Pane.cs)] ∧ q.Small ∧ (p ≤ p' ∧ p' ≤ p + picks d) ∧ Ps.length ≤ 24 ∧ ∀ q ∈ Ps, q.Small

theorem picks_pos : ∀ d, 10 ≤ picks d
  | 0 => by simp [picks]
  | d + 1 => by have := picks_pos d; simp [picks]; omega
theorem picks_pred {d : Nat} (h : 0 < d) : picks d = 10 + 2 * picks (d - 1) := by
  cases d with
  | zero => omega
  | succ d => rfl
theorem wkc_len (W H : Int) (n : Nat) : wkc W H n = .cells [.val (.int .i64 W), .val (.int .i64 H), .os 2 4 0 n] := rfl
theorem rdr_x (xs : List Int) (p : Int) : rdr xs p = .cells [.sl (bys xs), .val (.int .i64 p)] := rfl

theorem DDc0 : type_of% @rdr_x ∧ type_of% @wkc_len := ⟨@rdr_x, @wkc_len⟩

theorem e_grow : Enters Try.prog 152 := enters_of Try.func152 (by kernel_rfl) (by kernel_rfl)
set_option maxRecDepth 8000 in
set_option maxHeartbeats 4000000 in
theorem grow_c (xs : List Int) (hx : ∀ x ∈ xs, 0 ≤ x ∧ x < 256) (hl : xs.length ≤ 2000) (W H : Int) : ∀ (d : Nat) (p w h : Int) (Ps : List Pane), 0 ≤ p ∧ p + picks d ≤ 1000000000 → (1 ≤ w ∧ w ≤ 1000) → (1 ≤ h ∧ h ≤ 1000) → Ps.length ≤ 24 → (∀ q ∈ Ps, q.Small) → d ≤ 10 →
    ACalls Try.prog 152 [.ptr 0 0, .ptr 1 0, .val (.int .i64 w), .val (.int .i64 h), .val (.int .i64 d)] [rdr xs p, wkc W H Ps.length, .vec 4 (Ps.map Pane.cs)] [0, 1] (Grown xs p W H d) := by
  intro d
  induction d using Nat.strongRecOn with
  | _ d ih =>
  intro p w h Ps hp hw hh hPs hPq hd
  have hpk := picks_pos d
  refine acalls_tm T_tt Try.func152 rfl e_grow 173 rfl (W8 _ _ _ _ _ .any .any .any (W8 .any .any .any .any .any .any .any .any (W8 .any .any .any .any .any .any .any .any (W8 .any .any .any .any .any .any .any .any (W8 .any .any .any .any .any .any .any .any (W8 .any .any .any .any .any .any .any .any (W8 .any .any .any .any .any .any .any .any (W8 .any .any .any .any .any .any .any .any (W8 .any .any .any .any .any .any .any .any (W8 .any .any .any .any .any .any .any .any (W8 .any .any .any .any .any .any .any .any (W8 .any .any .any .any .any .any .any .any (W8 .any .any .any .any .any .any .any .any (W8 .any .any .any .any .any .any .any .any (W8 .any .any .any .any .any .any .any .any (W8 .any .any .any .any .any .any .any .any (W8 .any .any .any .any .any .any .any .any (W8 .any .any .any .any .any .any .any .any (W8 .any .any .any .any .any .any .any .any (W8 .any .any .any .any .any .any .any .any (W8 .any .any .any .any .any .any .any .any (W8 .any .any .any .any .any .any .any .any [.any, .any])))))))))))))))))))))) rfl (rv := [.cell 10 28]) rfl ?_
  refine awp_step (bl := []) T_tt ?_
  simp (disch := omega) only [SX0, SX1, SX2, SX3, SX4, SX5, SX6, SX7, SX8, SU0, SY0, SY1, Nat.reduceAdd, Nat.reduceMul, Nat.reduceSub, Nat.reduceLeDiff, Nat.reduceEqDiff, Nat.reduceLT, Nat.reduceBEq, ↓reduceIte, Int.reduceLE, Int.reduceLT, Int.reduceToNat, Int.reduceNeg, reduceCtorEq, Int.reduceEq, SF0, SF1, SF2, DCg0, DCe0, DCa0, DCa1, DDb0, DBc0, DBa0, DDc0]
  refine awp_step (bl := []) T_tt ?_
  simp (disch := omega) only [SX0, SX1, SX2, SX3, SX4, SX5, SX6, SX7, SX8, SU0, SY0, SY1, Nat.reduceAdd, Nat.reduceMul, Nat.reduceSub, Nat.reduceLeDiff, Nat.reduceEqDiff, Nat.reduceLT, Nat.reduceBEq, ↓reduceIte, Int.reduceLE, Int.reduceLT, Int.reduceToNat, Int.reduceNeg, reduceCtorEq, Int.reduceEq, SF0, SF1, SF2, DCg0, DCe0, DCa0, DCa1, DDb0, DBc0, DBa0, DDc0]
  refine pick_call hx hl (by omega) rfl fun c hc1 hc2 hc3 => ?_
  simp (disch := omega) only [SX0, SX1, SX2, SX3, SX4, SX5, SX6, SX7, SX8, SU0, SY0, SY1, Nat.reduceAdd, Nat.reduceMul, Nat.reduceSub, Nat.reduceLeDiff, Nat.reduceEqDiff, Nat.reduceLT, Nat.reduceBEq, ↓reduceIte, Int.reduceLE, Int.reduceLT, Int.reduceToNat, Int.reduceNeg, reduceCtorEq, Int.reduceEq, SF0, SF1, SF2, DCg0, DCe0, DCa0, DCa1, DDb0, DBc0, DBa0, DDc0]
  -- the cut from the top down
  refine awp_nest (awp_cut (bl := []) T_tt (G := Bool) (fun b => b = true → 0 < d ∧ 1 < w) 21 20 (fun b => [(40, .val (.bool b))]) (fun _ => [rdr xs (p + 1), wkc W H Ps.length, .vec 4 (Ps.map Pane.cs), .cells [.val (.int .i64 0), .val (.int .i64 0), .val (.int .i64 0), .val (.bool false), .val (.slice none 0 0)]]) ?_ fun b hb => ?_)
  · repeat' first | with_reducible refine fin_val ⟨?_, rfl⟩ | with_reducible refine br_dec (fun hb => ?_) (fun hb => ?_) | with_reducible refine br_ndec (fun hb => ?_) (fun hb => ?_) | with_reducible refine br_bool (fun hb => ?_) (fun hb => ?_) | with_reducible refine pk_dec (fun hb => ?_) (fun hb => ?_) | with_reducible refine pk_ndec (fun hb => ?_) (fun hb => ?_) | with_reducible refine awp_drawA T_tt mixed (by decide +kernel) (by kernel_rfl) (by kernel_rfl) ?_ | simp (disch := omega) only [SX0, SX1, SX2, SX3, SX4, SX5, SX6, SX7, SX8, SU0, SY0, SY1, Nat.reduceAdd, Nat.reduceMul, Nat.reduceSub, Nat.reduceLeDiff, Nat.reduceEqDiff, Nat.reduceLT, Nat.reduceBEq, ↓reduceIte, Int.reduceLE, Int.reduceLT, Int.reduceToNat, Int.reduceNeg, reduceCtorEq, Int.reduceEq, SF0, SF1, SF2, DCg0, DCe0, DCa0, DCa1, DDb0, DBc0, DBa0, DDc0]
    all_goals first
      | (refine ⟨true, fun _ => by omega, ?_⟩; (refine wk_le ?_ ?_ ?_; (focus (simp [W8, leTm, leAV, AV.under, underL, rdr, wkc]; done)); (focus (simp [leL, OB.under, underL, AV.under, rdr, wkc]; done)); (focus (simp; done))))
      | (refine ⟨false, fun h => (by cases h), ?_⟩; (refine wk_le ?_ ?_ ?_; (focus (simp [W8, leTm, leAV, AV.under, underL, rdr, wkc]; done)); (focus (simp [leL, OB.under, underL, AV.under, rdr, wkc]; done)); (focus (simp; done))))
      | (refine ⟨decide (h = 1), fun _ => by omega, ?_⟩; (refine wk_le ?_ ?_ ?_; (focus (simp [W8, leTm, leAV, AV.under, underL, rdr, wkc]; done)); (focus (simp [leL, OB.under, underL, AV.under, rdr, wkc]; done)); (focus (simp; done))))
  refine awp_end (bl := []) T_tt ?_
  simp (disch := omega) only [SX0, SX1, SX2, SX3, SX4, SX5, SX6, SX7, SX8, SU0, SY0, SY1, Nat.reduceAdd, Nat.reduceMul, Nat.reduceSub, Nat.reduceLeDiff, Nat.reduceEqDiff, Nat.reduceLT, Nat.reduceBEq, ↓reduceIte, Int.reduceLE, Int.reduceLT, Int.reduceToNat, Int.reduceNeg, reduceCtorEq, Int.reduceEq, SF0, SF1, SF2, DCg0, DCe0, DCa0, DCa1, DDb0, DBc0, DBa0, DDc0]
  refine br_bool (fun ht => ?_) (fun ht => ?_)
  · obtain ⟨hd0, hw1⟩ := hb ht
    have hpp := picks_pred hd0
    have hpk1 := picks_pos (d - 1)
    have hdd : ((d - 1 : Nat) : Int) = (d : Int) - 1 := by omega
    simp (disch := omega) only [SX0, SX1, SX2, SX3, SX4, SX5, SX6, SX7, SX8, SU0, SY0, SY1, Nat.reduceAdd, Nat.reduceMul, Nat.reduceSub, Nat.reduceLeDiff, Nat.reduceEqDiff, Nat.reduceLT, Nat.reduceBEq, ↓reduceIte, Int.reduceLE, Int.reduceLT, Int.reduceToNat, Int.reduceNeg, reduceCtorEq, Int.reduceEq, SF0, SF1, SF2, DCg0, DCe0, DCa0, DCa1, DDb0, DBc0, DBa0, DDc0]
    refine pick_call hx hl (by omega) rfl fun v hv1 hv2 hv3 => ?_
    have hv2 := hv2 (by omega)
    simp (disch := omega) only [SX0, SX1, SX2, SX3, SX4, SX5, SX6, SX7, SX8, SU0, SY0, SY1, Nat.reduceAdd, Nat.reduceMul, Nat.reduceSub, Nat.reduceLeDiff, Nat.reduceEqDiff, Nat.reduceLT, Nat.reduceBEq, ↓reduceIte, Int.reduceLE, Int.reduceLT, Int.reduceToNat, Int.reduceNeg, reduceCtorEq, Int.reduceEq, SF0, SF1, SF2, DCg0, DCe0, DCa0, DCa1, DDb0, DBc0, DBa0, DDc0]
    have g1 := ih (d - 1) (by omega) (p + 1 + 1) (1 + v) h Ps (by omega) (by omega) hh hPs hPq (by omega)
    rw [hdd] at g1
    refine acall_own g1 [0, 1, 2] [2] (by simp only [SX0, SX1, SX2, SX3, SX4, SX5, SX6, SX7, SX8, SU0, SY0, SY1, Nat.reduceAdd, Nat.reduceMul, Nat.reduceSub, Nat.reduceLeDiff, Nat.reduceEqDiff, Nat.reduceLT, Nat.reduceBEq, ↓reduceIte, Int.reduceLE, Int.reduceLT, Int.reduceToNat, Int.reduceNeg, reduceCtorEq, Int.reduceEq, SF0, SF1, SF2, DCg0, DCe0, DCa0, DCa1, DDb0, DBc0, DBa0, DDc0, SX0]) (by decide) (by decide) (by rfl) (by simp only [SX0, SX1, SX2, SX3, SX4, SX5, SX6, SX7, SX8, SU0, SY0, SY1, Nat.reduceAdd, Nat.reduceMul, Nat.reduceSub, Nat.reduceLeDiff, Nat.reduceEqDiff, Nat.reduceLT, Nat.reduceBEq, ↓reduceIte, Int.reduceLE, Int.reduceLT, Int.reduceToNat, Int.reduceNeg, reduceCtorEq, Int.reduceEq, SF0, SF1, SF2, DCg0, DCe0, DCa0, DCa1, DDb0, DBc0, DBa0, DDc0, SX0]) ?_
    rintro _ _ ⟨q1, p1, Ps1, rfl, rfl, hq1, hp1, hPs1, hPq1⟩
    simp (disch := omega) only [SX0, SX1, SX2, SX3, SX4, SX5, SX6, SX7, SX8, SU0, SY0, SY1, Nat.reduceAdd, Nat.reduceMul, Nat.reduceSub, Nat.reduceLeDiff, Nat.reduceEqDiff, Nat.reduceLT, Nat.reduceBEq, ↓reduceIte, Int.reduceLE, Int.reduceLT, Int.reduceToNat, Int.reduceNeg, reduceCtorEq, Int.reduceEq, SF0, SF1, SF2, DCg0, DCe0, DCa0, DCa1, DDb0, DBc0, DBa0, DDc0]
    refine awp_float (bl := []) T_tt mixed [0, 1, 3, 4] [0, 1, 2, 3, 4, 5, 6, 7, 8, 9] [(10, [(2, .f 55), (3, .f 56), (4, .f 57), (5, .f 58), (6, .f 59), (7, .f 60), (8, .f 61), (9, .f 62)]), (11, [(1, .f 54)]), (12, [(0, .f 53)]), (13, [])] [] (by kernel_rfl) (by kernel_rfl) ?_
    simp (disch := omega) only [SX0, SX1, SX2, SX3, SX4, SX5, SX6, SX7, SX8, SU0, SY0, SY1, Nat.reduceAdd, Nat.reduceMul, Nat.reduceSub, Nat.reduceLeDiff, Nat.reduceEqDiff, Nat.reduceLT, Nat.reduceBEq, ↓reduceIte, Int.reduceLE, Int.reduceLT, Int.reduceToNat, Int.reduceNeg, reduceCtorEq, Int.reduceEq, SF0, SF1, SF2, DCg0, DCe0, DCa0, DCa1, DDb0, DBc0, DBa0, DDc0]
    have g2 := ih (d - 1) (by omega) p1 (w - (1 + v)) h Ps1 (by omega) (by omega) hh hPs1 hPq1 (by omega)
    rw [hdd] at g2
    refine acall_own g2 [0, 1, 2] [2] (by simp only [SX0, SX1, SX2, SX3, SX4, SX5, SX6, SX7, SX8, SU0, SY0, SY1, Nat.reduceAdd, Nat.reduceMul, Nat.reduceSub, Nat.reduceLeDiff, Nat.reduceEqDiff, Nat.reduceLT, Nat.reduceBEq, ↓reduceIte, Int.reduceLE, Int.reduceLT, Int.reduceToNat, Int.reduceNeg, reduceCtorEq, Int.reduceEq, SF0, SF1, SF2, DCg0, DCe0, DCa0, DCa1, DDb0, DBc0, DBa0, DDc0, SX0]) (by decide) (by decide) (by rfl) (by simp only [SX0, SX1, SX2, SX3, SX4, SX5, SX6, SX7, SX8, SU0, SY0, SY1, Nat.reduceAdd, Nat.reduceMul, Nat.reduceSub, Nat.reduceLeDiff, Nat.reduceEqDiff, Nat.reduceLT, Nat.reduceBEq, ↓reduceIte, Int.reduceLE, Int.reduceLT, Int.reduceToNat, Int.reduceNeg, reduceCtorEq, Int.reduceEq, SF0, SF1, SF2, DCg0, DCe0, DCa0, DCa1, DDb0, DBc0, DBa0, DDc0, SX0]) ?_
    rintro _ _ ⟨q2, p2, Ps2, rfl, rfl, hq2, hp2, hPs2, hPq2⟩
    simp (disch := omega) only [SX0, SX1, SX2, SX3, SX4, SX5, SX6, SX7, SX8, SU0, SY0, SY1, Nat.reduceAdd, Nat.reduceMul, Nat.reduceSub, Nat.reduceLeDiff, Nat.reduceEqDiff, Nat.reduceLT, Nat.reduceBEq, ↓reduceIte, Int.reduceLE, Int.reduceLT, Int.reduceToNat, Int.reduceNeg, reduceCtorEq, Int.reduceEq, SF0, SF1, SF2, DCg0, DCe0, DCa0, DCa1, DDb0, DBc0, DBa0, DDc0]
    exact fin_ks [0, 1, 2] (.agg (Plan.mk 2 (1 + v) 0 false [q1, q2]).cs) [rdr xs p2, wkc W H Ps2.length, .vec 4 (Ps2.map Pane.cs)] ⟨_, p2, Ps2, rfl, rfl, .mk (by omega) (by omega) (by omega) (by simp) (by simp [hq1, hq2]), ⟨by omega, by omega⟩, hPs2, hPq2⟩ (by simp [Plan.cs_eq, Plan.op, Plan.at_, Plan.pa, Plan.tu, Plan.ks, AV.ren, renL]) (by simp [keepL, nameK, rdr, wkc, OB.ren, AV.ren]) (by simp) (by simp) (by simp)
  clear ht hb
  simp (disch := omega) only [SX0, SX1, SX2, SX3, SX4, SX5, SX6, SX7, SX8, SU0, SY0, SY1, Nat.reduceAdd, Nat.reduceMul, Nat.reduceSub, Nat.reduceLeDiff, Nat.reduceEqDiff, Nat.reduceLT, Nat.reduceBEq, ↓reduceIte, Int.reduceLE, Int.reduceLT, Int.reduceToNat, Int.reduceNeg, reduceCtorEq, Int.reduceEq, SF0, SF1, SF2, DCg0, DCe0, DCa0, DCa1, DDb0, DBc0, DBa0, DDc0]
  -- the cut from side to side
  refine awp_nest (awp_cut (bl := []) T_tt (G := Bool) (fun b => b = true → 0 < d ∧ 1 < h) 21 60 (fun b => [(75, .val (.bool b))]) (fun _ => [rdr xs (p + 1), wkc W H Ps.length, .vec 4 (Ps.map Pane.cs), .cells [.val (.int .i64 0), .val (.int .i64 0), .val (.int .i64 0), .val (.bool false), .val (.slice none 0 0)]]) ?_ fun b hb => ?_)
  · repeat' first | with_reducible refine fin_val ⟨?_, rfl⟩ | with_reducible refine br_dec (fun hb => ?_) (fun hb => ?_) | with_reducible refine br_ndec (fun hb => ?_) (fun hb => ?_) | with_reducible refine br_bool (fun hb => ?_) (fun hb => ?_) | with_reducible refine pk_dec (fun hb => ?_) (fun hb => ?_) | with_reducible refine pk_ndec (fun hb => ?_) (fun hb => ?_) | with_reducible refine awp_drawA T_tt mixed (by decide +kernel) (by kernel_rfl) (by kernel_rfl) ?_ | simp (disch := omega) only [SX0, SX1, SX2, SX3, SX4, SX5, SX6, SX7, SX8, SU0, SY0, SY1, Nat.reduceAdd, Nat.reduceMul, Nat.reduceSub, Nat.reduceLeDiff, Nat.reduceEqDiff, Nat.reduceLT, Nat.reduceBEq, ↓reduceIte, Int.reduceLE, Int.reduceLT, Int.reduceToNat, Int.reduceNeg, reduceCtorEq, Int.reduceEq, SF0, SF1, SF2, DCg0, DCe0, DCa0, DCa1, DDb0, DBc0, DBa0, DDc0]
    all_goals first
      | (refine ⟨true, fun _ => by omega, ?_⟩; (refine wk_le ?_ ?_ ?_; (focus (simp [W8, leTm, leAV, AV.under, underL, rdr, wkc]; done)); (focus (simp [leL, OB.under, underL, AV.under, rdr, wkc]; done)); (focus (simp; done))))
      | (refine ⟨false, fun h => (by cases h), ?_⟩; (refine wk_le ?_ ?_ ?_; (focus (simp [W8, leTm, leAV, AV.under, underL, rdr, wkc]; done)); (focus (simp [leL, OB.under, underL, AV.under, rdr, wkc]; done)); (focus (simp; done))))
      | (refine ⟨decide (c < 6), fun _ => by omega, ?_⟩; (refine wk_le ?_ ?_ ?_; (focus (simp [W8, leTm, leAV, AV.under, underL, rdr, wkc]; done)); (focus (simp [leL, OB.under, underL, AV.under, rdr, wkc]; done)); (focus (simp; done))))
  refine awp_end (bl := []) T_tt ?_
  simp (disch := omega) only [SX0, SX1, SX2, SX3, SX4, SX5, SX6, SX7, SX8, SU0, SY0, SY1, Nat.reduceAdd, Nat.reduceMul, Nat.reduceSub, Nat.reduceLeDiff, Nat.reduceEqDiff, Nat.reduceLT, Nat.reduceBEq, ↓reduceIte, Int.reduceLE, Int.reduceLT, Int.reduceToNat, Int.reduceNeg, reduceCtorEq, Int.reduceEq, SF0, SF1, SF2, DCg0, DCe0, DCa0, DCa1, DDb0, DBc0, DBa0, DDc0]
  refine br_bool (fun ht => ?_) (fun ht => ?_)
  · obtain ⟨hd0, hh1⟩ := hb ht
    have hpp := picks_pred hd0
    have hpk1 := picks_pos (d - 1)
    have hdd : ((d - 1 : Nat) : Int) = (d : Int) - 1 := by omega
    simp (disch := omega) only [SX0, SX1, SX2, SX3, SX4, SX5, SX6, SX7, SX8, SU0, SY0, SY1, Nat.reduceAdd, Nat.reduceMul, Nat.reduceSub, Nat.reduceLeDiff, Nat.reduceEqDiff, Nat.reduceLT, Nat.reduceBEq, ↓reduceIte, Int.reduceLE, Int.reduceLT, Int.reduceToNat, Int.reduceNeg, reduceCtorEq, Int.reduceEq, SF0, SF1, SF2, DCg0, DCe0, DCa0, DCa1, DDb0, DBc0, DBa0, DDc0]
    refine pick_call hx hl (by omega) rfl fun v hv1 hv2 hv3 => ?_
    have hv2 := hv2 (by omega)
    simp (disch := omega) only [SX0, SX1, SX2, SX3, SX4, SX5, SX6, SX7, SX8, SU0, SY0, SY1, Nat.reduceAdd, Nat.reduceMul, Nat.reduceSub, Nat.reduceLeDiff, Nat.reduceEqDiff, Nat.reduceLT, Nat.reduceBEq, ↓reduceIte, Int.reduceLE, Int.reduceLT, Int.reduceToNat, Int.reduceNeg, reduceCtorEq, Int.reduceEq, SF0, SF1, SF2, DCg0, DCe0, DCa0, DCa1, DDb0, DBc0, DBa0, DDc0]
    have g1 := ih (d - 1) (by omega) (p + 1 + 1) w (1 + v) Ps (by omega) hw (by omega) hPs hPq (by omega)
    rw [hdd] at g1
    refine acall_own g1 [0, 1, 2] [2] (by simp only [SX0, SX1, SX2, SX3, SX4, SX5, SX6, SX7, SX8, SU0, SY0, SY1, Nat.reduceAdd, Nat.reduceMul, Nat.reduceSub, Nat.reduceLeDiff, Nat.reduceEqDiff, Nat.reduceLT, Nat.reduceBEq, ↓reduceIte, Int.reduceLE, Int.reduceLT, Int.reduceToNat, Int.reduceNeg, reduceCtorEq, Int.reduceEq, SF0, SF1, SF2, DCg0, DCe0, DCa0, DCa1, DDb0, DBc0, DBa0, DDc0, SX0]) (by decide) (by decide) (by rfl) (by simp only [SX0, SX1, SX2, SX3, SX4, SX5, SX6, SX7, SX8, SU0, SY0, SY1, Nat.reduceAdd, Nat.reduceMul, Nat.reduceSub, Nat.reduceLeDiff, Nat.reduceEqDiff, Nat.reduceLT, Nat.reduceBEq, ↓reduceIte, Int.reduceLE, Int.reduceLT, Int.reduceToNat, Int.reduceNeg, reduceCtorEq, Int.reduceEq, SF0, SF1, SF2, DCg0, DCe0, DCa0, DCa1, DDb0, DBc0, DBa0, DDc0, SX0]) ?_
    rintro _ _ ⟨q1, p1, Ps1, rfl, rfl, hq1, hp1, hPs1, hPq1⟩
    simp (disch := omega) only [SX0, SX1, SX2, SX3, SX4, SX5, SX6, SX7, SX8, SU0, SY0, SY1, Nat.reduceAdd, Nat.reduceMul, Nat.reduceSub, Nat.reduceLeDiff, Nat.reduceEqDiff, Nat.reduceLT, Nat.reduceBEq, ↓reduceIte, Int.reduceLE, Int.reduceLT, Int.reduceToNat, Int.reduceNeg, reduceCtorEq, Int.reduceEq, SF0, SF1, SF2, DCg0, DCe0, DCa0, DCa1, DDb0, DBc0, DBa0, DDc0]
    refine awp_float (bl := []) T_tt mixed [0, 1, 3, 4] [0, 1, 2, 3, 4, 5, 6, 7, 8, 9] [(10, [(2, .f 90), (3, .f 91), (4, .f 92), (5, .f 93), (6, .f 94), (7, .f 95), (8, .f 96), (9, .f 97)]), (11, [(1, .f 89)]), (12, [(0, .f 88)]), (13, [])] [] (by kernel_rfl) (by kernel_rfl) ?_
    simp (disch := omega) only [SX0, SX1, SX2, SX3, SX4, SX5, SX6, SX7, SX8, SU0, SY0, SY1, Nat.reduceAdd, Nat.reduceMul, Nat.reduceSub, Nat.reduceLeDiff, Nat.reduceEqDiff, Nat.reduceLT, Nat.reduceBEq, ↓reduceIte, Int.reduceLE, Int.reduceLT, Int.reduceToNat, Int.reduceNeg, reduceCtorEq, Int.reduceEq, SF0, SF1, SF2, DCg0, DCe0, DCa0, DCa1, DDb0, DBc0, DBa0, DDc0]
    have g2 := ih (d - 1) (by omega) p1 w (h - (1 + v)) Ps1 (by omega) hw (by omega) hPs1 hPq1 (by omega)
    rw [hdd] at g2
    refine acall_own g2 [0, 1, 2] [2] (by simp only [SX0, SX1, SX2, SX3, SX4, SX5, SX6, SX7, SX8, SU0, SY0, SY1, Nat.reduceAdd, Nat.reduceMul, Nat.reduceSub, Nat.reduceLeDiff, Nat.reduceEqDiff, Nat.reduceLT, Nat.reduceBEq, ↓reduceIte, Int.reduceLE, Int.reduceLT, Int.reduceToNat, Int.reduceNeg, reduceCtorEq, Int.reduceEq, SF0, SF1, SF2, DCg0, DCe0, DCa0, DCa1, DDb0, DBc0, DBa0, DDc0, SX0]) (by decide) (by decide) (by rfl) (by simp only [SX0, SX1, SX2, SX3, SX4, SX5, SX6, SX7, SX8, SU0, SY0, SY1, Nat.reduceAdd, Nat.reduceMul, Nat.reduceSub, Nat.reduceLeDiff, Nat.reduceEqDiff, Nat.reduceLT, Nat.reduceBEq, ↓reduceIte, Int.reduceLE, Int.reduceLT, Int.reduceToNat, Int.reduceNeg, reduceCtorEq, Int.reduceEq, SF0, SF1, SF2, DCg0, DCe0, DCa0, DCa1, DDb0, DBc0, DBa0, DDc0, SX0]) ?_
    rintro _ _ ⟨q2, p2, Ps2, rfl, rfl, hq2, hp2, hPs2, hPq2⟩
    simp (disch := omega) only [SX0, SX1, SX2, SX3, SX4, SX5, SX6, SX7, SX8, SU0, SY0, SY1, Nat.reduceAdd, Nat.reduceMul, Nat.reduceSub, Nat.reduceLeDiff, Nat.reduceEqDiff, Nat.reduceLT, Nat.reduceBEq, ↓reduceIte, Int.reduceLE, Int.reduceLT, Int.reduceToNat, Int.reduceNeg, reduceCtorEq, Int.reduceEq, SF0, SF1, SF2, DCg0, DCe0, DCa0, DCa1, DDb0, DBc0, DBa0, DDc0]
    exact fin_ks [0, 1, 2] (.agg (Plan.mk 3 (1 + v) 0 false [q1, q2]).cs) [rdr xs p2, wkc W H Ps2.length, .vec 4 (Ps2.map Pane.cs)] ⟨_, p2, Ps2, rfl, rfl, .mk (by omega) (by omega) (by omega) (by simp) (by simp [hq1, hq2]), ⟨by omega, by omega⟩, hPs2, hPq2⟩ (by simp [Plan.cs_eq, Plan.op, Plan.at_, Plan.pa, Plan.tu, Plan.ks, AV.ren, renL]) (by simp [keepL, nameK, rdr, wkc, OB.ren, AV.ren]) (by simp) (by simp) (by simp)
  clear ht hb
  simp (disch := omega) only [SX0, SX1, SX2, SX3, SX4, SX5, SX6, SX7, SX8, SU0, SY0, SY1, Nat.reduceAdd, Nat.reduceMul, Nat.reduceSub, Nat.reduceLeDiff, Nat.reduceEqDiff, Nat.reduceLT, Nat.reduceBEq, ↓reduceIte, Int.reduceLE, Int.reduceLT, Int.reduceToNat, Int.reduceNeg, reduceCtorEq, Int.reduceEq, SF0, SF1, SF2, DCg0, DCe0, DCa0, DCa1, DDb0, DBc0, DBa0, DDc0]
  -- waste
  refine awp_step (bl := []) T_tt ?_
  simp (disch := omega) only [SX0, SX1, SX2, SX3, SX4, SX5, SX6, SX7, SX8, SU0, SY0, SY1, Nat.reduceAdd, Nat.reduceMul, Nat.reduceSub, Nat.reduceLeDiff, Nat.reduceEqDiff, Nat.reduceLT, Nat.reduceBEq, ↓reduceIte, Int.reduceLE, Int.reduceLT, Int.reduceToNat, Int.reduceNeg, reduceCtorEq, Int.reduceEq, SF0, SF1, SF2, DCg0, DCe0, DCa0, DCa1, DDb0, DBc0, DBa0, DDc0]
  refine br_dec (fun h7 => ?_) (fun h7 => ?_)
  · simp (disch := omega) only [SX0, SX1, SX2, SX3, SX4, SX5, SX6, SX7, SX8, SU0, SY0, SY1, Nat.reduceAdd, Nat.reduceMul, Nat.reduceSub, Nat.reduceLeDiff, Nat.reduceEqDiff, Nat.reduceLT, Nat.reduceBEq, ↓reduceIte, Int.reduceLE, Int.reduceLT, Int.reduceToNat, Int.reduceNeg, reduceCtorEq, Int.reduceEq, SF0, SF1, SF2, DCg0, DCe0, DCa0, DCa1, DDb0, DBc0, DBa0, DDc0]
    refine fin_nrm ?_
    simp only [AV.nrm, nrmL]
    exact fin_ks [0, 1, 2] (.agg (Plan.mk 0 0 0 false []).cs) [rdr xs (p + 1), wkc W H Ps.length, .vec 4 (Ps.map Pane.cs)] ⟨_, p + 1, Ps, rfl, rfl, .mk (by omega) (by omega) (by omega) (by simp) (by simp), ⟨by omega, by omega⟩, hPs, hPq⟩ (by simp [Plan.cs_eq, Plan.op, Plan.at_, Plan.pa, Plan.tu, Plan.ks, AV.ren, renL]) (by simp [keepL, nameK, rdr, wkc, OB.ren, AV.ren]) (by simp) (by simp) (by simp)
  simp (disch := omega) only [SX0, SX1, SX2, SX3, SX4, SX5, SX6, SX7, SX8, SU0, SY0, SY1, Nat.reduceAdd, Nat.reduceMul, Nat.reduceSub, Nat.reduceLeDiff, Nat.reduceEqDiff, Nat.reduceLT, Nat.reduceBEq, ↓reduceIte, Int.reduceLE, Int.reduceLT, Int.reduceToNat, Int.reduceNeg, reduceCtorEq, Int.reduceEq, SF0, SF1, SF2, DCg0, DCe0, DCa0, DCa1, DDb0, DBc0, DBa0, DDc0]
  -- a pane that is there already
  refine awp_nest (awp_step (bl := []) T_tt ?_)
  simp (disch := omega) only [SX0, SX1, SX2, SX3, SX4, SX5, SX6, SX7, SX8, SU0, SY0, SY1, Nat.reduceAdd, Nat.reduceMul, Nat.reduceSub, Nat.reduceLeDiff, Nat.reduceEqDiff, Nat.reduceLT, Nat.reduceBEq, ↓reduceIte, Int.reduceLE, Int.reduceLT, Int.reduceToNat, Int.reduceNeg, reduceCtorEq, Int.reduceEq, SF0, SF1, SF2, DCg0, DCe0, DCa0, DCa1, DDb0, DBc0, DBa0, DDc0]
  refine awp_end (bl := []) T_tt ?_
  simp (disch := omega) only [SX0, SX1, SX2, SX3, SX4, SX5, SX6, SX7, SX8, SU0, SY0, SY1, Nat.reduceAdd, Nat.reduceMul, Nat.reduceSub, Nat.reduceLeDiff, Nat.reduceEqDiff, Nat.reduceLT, Nat.reduceBEq, ↓reduceIte, Int.reduceLE, Int.reduceLT, Int.reduceToNat, Int.reduceNeg, reduceCtorEq, Int.reduceEq, SF0, SF1, SF2, DCg0, DCe0, DCa0, DCa1, DDb0, DBc0, DBa0, DDc0]
  with_reducible refine awp_loop_h 11 117 (fun (i : Nat) => [(16, .val (.int .i64 i))]) (fun _ => [rdr xs (p + 1), wkc W H Ps.length, .vec 4 (Ps.map Pane.cs), .cells [.val (.int .i64 0), .val (.int .i64 0), .val (.int .i64 0), .val (.bool false), .val (.slice none 0 0)]]) (fun i => i ≤ Ps.length) (fun i => Ps.length - i) 0 (Nat.zero_le _) ?_ (fun i hi => sx_sound (bl := []) T_tt _ _ _ ?_)
  · simp (disch := omega) only [SX0, SX1, SX2, SX3, SX4, SX5, SX6, SX7, SX8, SU0, SY0, SY1, Nat.reduceAdd, Nat.reduceMul, Nat.reduceSub, Nat.reduceLeDiff, Nat.reduceEqDiff, Nat.reduceLT, Nat.reduceBEq, ↓reduceIte, Int.reduceLE, Int.reduceLT, Int.reduceToNat, Int.reduceNeg, reduceCtorEq, Int.reduceEq, SF0, SF1, SF2, DCg0, DCe0, DCa0, DCa1, DDb0, DBc0, DBa0, DDc0]
    (refine wk_le ?_ ?_ ?_; (focus (simp [W8, leTm, leAV, AV.under, underL, rdr, wkc]; done)); (focus (simp [leL, OB.under, underL, AV.under, rdr, wkc]; done)); (focus (simp; done)))
  simp (disch := omega) only [SX0, SX1, SX2, SX3, SX4, SX5, SX6, SX7, SX8, SU0, SY0, SY1, Nat.reduceAdd, Nat.reduceMul, Nat.reduceSub, Nat.reduceLeDiff, Nat.reduceEqDiff, Nat.reduceLT, Nat.reduceBEq, ↓reduceIte, Int.reduceLE, Int.reduceLT, Int.reduceToNat, Int.reduceNeg, reduceCtorEq, Int.reduceEq, SF0, SF1, SF2, DCg0, DCe0, DCa0, DCa1, DDb0, DBc0, DBa0, DDc0]
  refine br_dec (fun hi1 => ?_) (fun hi1 => ?_)
  · simp (disch := omega) only [SX0, SX1, SX2, SX3, SX4, SX5, SX6, SX7, SX8, SU0, SY0, SY1, Nat.reduceAdd, Nat.reduceMul, Nat.reduceSub, Nat.reduceLeDiff, Nat.reduceEqDiff, Nat.reduceLT, Nat.reduceBEq, ↓reduceIte, Int.reduceLE, Int.reduceLT, Int.reduceToNat, Int.reduceNeg, reduceCtorEq, Int.reduceEq, SF0, SF1, SF2, DCg0, DCe0, DCa0, DCa1, DDb0, DBc0, DBa0, DDc0]
    with_reducible refine awp_loop_h 17 111 (fun (j : Nat) => [(17, .val (.int .i64 j))]) (fun _ => [rdr xs (p + 1), wkc W H Ps.length, .vec 4 (Ps.map Pane.cs), .cells [.val (.int .i64 0), .val (.int .i64 0), .val (.int .i64 0), .val (.bool false), .val (.slice none 0 0)]]) (fun j => j ≤ 2) (fun j => 2 - j) 0 (Nat.zero_le _) ?_ (fun j hj => sx_sound (bl := []) T_tt _ _ _ ?_)
    · simp (disch := omega) only [SX0, SX1, SX2, SX3, SX4, SX5, SX6, SX7, SX8, SU0, SY0, SY1, Nat.reduceAdd, Nat.reduceMul, Nat.reduceSub, Nat.reduceLeDiff, Nat.reduceEqDiff, Nat.reduceLT, Nat.reduceBEq, ↓reduceIte, Int.reduceLE, Int.reduceLT, Int.reduceToNat, Int.reduceNeg, reduceCtorEq, Int.reduceEq, SF0, SF1, SF2, DCg0, DCe0, DCa0, DCa1, DDb0, DBc0, DBa0, DDc0]
      (refine wk_le ?_ ?_ ?_; (focus (simp [W8, leTm, leAV, AV.under, underL, rdr, wkc]; done)); (focus (simp [leL, OB.under, underL, AV.under, rdr, wkc]; done)); (focus (simp; done)))
    simp (disch := omega) only [SX0, SX1, SX2, SX3, SX4, SX5, SX6, SX7, SX8, SU0, SY0, SY1, Nat.reduceAdd, Nat.reduceMul, Nat.reduceSub, Nat.reduceLeDiff, Nat.reduceEqDiff, Nat.reduceLT, Nat.reduceBEq, ↓reduceIte, Int.reduceLE, Int.reduceLT, Int.reduceToNat, Int.reduceNeg, reduceCtorEq, Int.reduceEq, SF0, SF1, SF2, DCg0, DCe0, DCa0, DCa1, DDb0, DBc0, DBa0, DDc0]
    refine br_dec (fun hj1 => ?_) (fun hj1 => ?_)
    · simp (disch := omega) only [SX0, SX1, SX2, SX3, SX4, SX5, SX6, SX7, SX8, SU0, SY0, SY1, Nat.reduceAdd, Nat.reduceMul, Nat.reduceSub, Nat.reduceLeDiff, Nat.reduceEqDiff, Nat.reduceLT, Nat.reduceBEq, ↓reduceIte, Int.reduceLE, Int.reduceLT, Int.reduceToNat, Int.reduceNeg, reduceCtorEq, Int.reduceEq, SF0, SF1, SF2, DCg0, DCe0, DCa0, DCa1, DDb0, DBc0, DBa0, DDc0]
      refine awp_float (bl := []) T_tt mixed [0, 1, 2, 3, 4] [0, 1, 2, 3, 4, 5] [(6, [(0, .f 121), (1, .f 122), (2, .f 123), (3, .f 124), (4, .f 125), (5, .f 126)])] [] (by kernel_rfl) (by kernel_rfl) ?_
      simp (disch := omega) only [SX0, SX1, SX2, SX3, SX4, SX5, SX6, SX7, SX8, SU0, SY0, SY1, Nat.reduceAdd, Nat.reduceMul, Nat.reduceSub, Nat.reduceLeDiff, Nat.reduceEqDiff, Nat.reduceLT, Nat.reduceBEq, ↓reduceIte, Int.reduceLE, Int.reduceLT, Int.reduceToNat, Int.reduceNeg, reduceCtorEq, Int.reduceEq, SF0, SF1, SF2, DCg0, DCe0, DCa0, DCa1, DDb0, DBc0, DBa0, DDc0]
      refine acall_nrm ?_
      simp only [List.map_cons, List.map_nil, AV.nrm, nrmL]
      have hq := qcall_one (fitsS_c ⟨W, H, Ps⟩ (by show Ps.length < 2 ^ 40; omega) (Plan.mk 1 0 i (decide ((j : Int) = 1)) []) w h (by simp [Plan.wf, Plan.wfL, Plan.good, Plan.cut, Plan.op, Plan.ks, Plan.at_]) (by omega) (by omega)) (by simp [freeL, AV.free, Plan.free, Work.free])
      simp only [Plan.cs_eq, Plan.op, Plan.at_, Plan.pa, Plan.tu, Plan.ks, Work.cs, List.map_nil] at hq
      refine acall_borrow (r := 2) (k := 4) (es := Ps.map Pane.cs) rfl (v := .bool ((Plan.mk 1 0 i (decide ((j : Int) = 1)) []).fits ⟨W, H, Ps⟩ w h)) ?_ ?_
      · simp only [List.map_cons, List.map_nil, AV.frz, frzL, if_true, Nat.zero_add, List.drop_zero, true_and, List.length_map, Nat.le_refl]
        rw [List.take_of_length_le (by simp)]
        exact hq
      simp (disch := omega) only [SX0, SX1, SX2, SX3, SX4, SX5, SX6, SX7, SX8, SU0, SY0, SY1, Nat.reduceAdd, Nat.reduceMul, Nat.reduceSub, Nat.reduceLeDiff, Nat.reduceEqDiff, Nat.reduceLT, Nat.reduceBEq, ↓reduceIte, Int.reduceLE, Int.reduceLT, Int.reduceToNat, Int.reduceNeg, reduceCtorEq, Int.reduceEq, SF0, SF1, SF2, DCg0, DCe0, DCa0, DCa1, DDb0, DBc0, DBa0, DDc0]
      refine br_bool (fun hf => ?_) (fun hf => ?_)
      · simp (disch := omega) only [SX0, SX1, SX2, SX3, SX4, SX5, SX6, SX7, SX8, SU0, SY0, SY1, Nat.reduceAdd, Nat.reduceMul, Nat.reduceSub, Nat.reduceLeDiff, Nat.reduceEqDiff, Nat.reduceLT, Nat.reduceBEq, ↓reduceIte, Int.reduceLE, Int.reduceLT, Int.reduceToNat, Int.reduceNeg, reduceCtorEq, Int.reduceEq, SF0, SF1, SF2, DCg0, DCe0, DCa0, DCa1, DDb0, DBc0, DBa0, DDc0]
        refine fin_nrm ?_
        simp only [AV.nrm, nrmL]
        exact fin_ks [0, 1, 2] (.agg (Plan.mk 1 0 i (decide ((j : Int) = 1)) []).cs) [rdr xs (p + 1), wkc W H Ps.length, .vec 4 (Ps.map Pane.cs)] ⟨_, p + 1, Ps, rfl, rfl, .mk (by omega) (by omega) (by omega) (by simp) (by simp), ⟨by omega, by omega⟩, hPs, hPq⟩ (by simp [Plan.cs_eq, Plan.op, Plan.at_, Plan.pa, Plan.tu, Plan.ks, AV.ren, renL]) (by simp [keepL, nameK, rdr, wkc, OB.ren, AV.ren]) (by simp) (by simp) (by simp)
      · simp (disch := omega) only [SX0, SX1, SX2, SX3, SX4, SX5, SX6, SX7, SX8, SU0, SY0, SY1, Nat.reduceAdd, Nat.reduceMul, Nat.reduceSub, Nat.reduceLeDiff, Nat.reduceEqDiff, Nat.reduceLT, Nat.reduceBEq, ↓reduceIte, Int.reduceLE, Int.reduceLT, Int.reduceToNat, Int.reduceNeg, reduceCtorEq, Int.reduceEq, SF0, SF1, SF2, DCg0, DCe0, DCa0, DCa1, DDb0, DBc0, DBa0, DDc0]
        refine ⟨j + 1, by omega, by omega, ?_⟩
        (refine wk_le ?_ ?_ ?_; (focus (simp [W8, leTm, leAV, AV.under, underL, rdr, wkc]; done)); (focus (simp [leL, OB.under, underL, AV.under, rdr, wkc]; done)); (focus (simp; done)))
    · simp (disch := omega) only [SX0, SX1, SX2, SX3, SX4, SX5, SX6, SX7, SX8, SU0, SY0, SY1, Nat.reduceAdd, Nat.reduceMul, Nat.reduceSub, Nat.reduceLeDiff, Nat.reduceEqDiff, Nat.reduceLT, Nat.reduceBEq, ↓reduceIte, Int.reduceLE, Int.reduceLT, Int.reduceToNat, Int.reduceNeg, reduceCtorEq, Int.reduceEq, SF0, SF1, SF2, DCg0, DCe0, DCa0, DCa1, DDb0, DBc0, DBa0, DDc0]
      refine ⟨i + 1, by omega, by omega, ?_⟩
      (refine wk_le ?_ ?_ ?_; (focus (simp [W8, leTm, leAV, AV.under, underL, rdr, wkc]; done)); (focus (simp [leL, OB.under, underL, AV.under, rdr, wkc]; done)); (focus (simp; done)))
  simp (disch := omega) only [SX0, SX1, SX2, SX3, SX4, SX5, SX6, SX7, SX8, SU0, SY0, SY1, Nat.reduceAdd, Nat.reduceMul, Nat.reduceSub, Nat.reduceLeDiff, Nat.reduceEqDiff, Nat.reduceLT, Nat.reduceBEq, ↓reduceIte, Int.reduceLE, Int.reduceLT, Int.reduceToNat, Int.reduceNeg, reduceCtorEq, Int.reduceEq, SF0, SF1, SF2, DCg0, DCe0, DCa0, DCa1, DDb0, DBc0, DBa0, DDc0]
  refine awp_step (bl := []) T_tt ?_
  simp (disch := omega) only [SX0, SX1, SX2, SX3, SX4, SX5, SX6, SX7, SX8, SU0, SY0, SY1, Nat.reduceAdd, Nat.reduceMul, Nat.reduceSub, Nat.reduceLeDiff, Nat.reduceEqDiff, Nat.reduceLT, Nat.reduceBEq, ↓reduceIte, Int.reduceLE, Int.reduceLT, Int.reduceToNat, Int.reduceNeg, reduceCtorEq, Int.reduceEq, SF0, SF1, SF2, DCg0, DCe0, DCa0, DCa1, DDb0, DBc0, DBa0, DDc0]
  refine br_dec (fun h24 => ?_) (fun h24 => ?_)
  · simp (disch := omega) only [SX0, SX1, SX2, SX3, SX4, SX5, SX6, SX7, SX8, SU0, SY0, SY1, Nat.reduceAdd, Nat.reduceMul, Nat.reduceSub, Nat.reduceLeDiff, Nat.reduceEqDiff, Nat.reduceLT, Nat.reduceBEq, ↓reduceIte, Int.reduceLE, Int.reduceLT, Int.reduceToNat, Int.reduceNeg, reduceCtorEq, Int.reduceEq, SF0, SF1, SF2, DCg0, DCe0, DCa0, DCa1, DDb0, DBc0, DBa0, DDc0]
    refine fin_nrm ?_
    simp only [AV.nrm, nrmL]
    exact fin_ks [0, 1, 2] (.agg (Plan.mk 0 0 0 false []).cs) [rdr xs (p + 1), wkc W H Ps.length, .vec 4 (Ps.map Pane.cs)] ⟨_, p + 1, Ps, rfl, rfl, .mk (by omega) (by omega) (by omega) (by simp) (by simp), ⟨by omega, by omega⟩, hPs, hPq⟩ (by simp [Plan.cs_eq, Plan.op, Plan.at_, Plan.pa, Plan.tu, Plan.ks, AV.ren, renL]) (by simp [keepL, nameK, rdr, wkc, OB.ren, AV.ren]) (by simp) (by simp) (by simp)
  simp (disch := omega) only [SX0, SX1, SX2, SX3, SX4, SX5, SX6, SX7, SX8, SU0, SY0, SY1, Nat.reduceAdd, Nat.reduceMul, Nat.reduceSub, Nat.reduceLeDiff, Nat.reduceEqDiff, Nat.reduceLT, Nat.reduceBEq, ↓reduceIte, Int.reduceLE, Int.reduceLT, Int.reduceToNat, Int.reduceNeg, reduceCtorEq, Int.reduceEq, SF0, SF1, SF2, DCg0, DCe0, DCa0, DCa1, DDb0, DBc0, DBa0, DDc0]
  -- a new pane
  refine awp_cut (bl := []) T_tt (G := Bool) (fun _ => True) 11 140 (fun b => [(19, .val (.bool b))]) (fun _ => [rdr xs (p + 2), wkc W H Ps.length, .vec 4 (Ps.map Pane.cs), .cells [.val (.int .i64 0), .val (.int .i64 0), .val (.int .i64 0), .val (.bool false), .val (.slice none 0 0)]]) ?_ fun tu _ => ?_
  · simp (disch := omega) only [SX0, SX1, SX2, SX3, SX4, SX5, SX6, SX7, SX8, SU0, SY0, SY1, Nat.reduceAdd, Nat.reduceMul, Nat.reduceSub, Nat.reduceLeDiff, Nat.reduceEqDiff, Nat.reduceLT, Nat.reduceBEq, ↓reduceIte, Int.reduceLE, Int.reduceLT, Int.reduceToNat, Int.reduceNeg, reduceCtorEq, Int.reduceEq, SF0, SF1, SF2, DCg0, DCe0, DCa0, DCa1, DDb0, DBc0, DBa0, DDc0]
    refine pick_call hx hl (by omega) rfl fun v hv1 hv2 hv3 => ?_
    have e2 : p + 1 + 1 = p + 2 := by omega
    rw [e2]
    repeat' first | with_reducible refine fin_val ⟨?_, rfl⟩ | with_reducible refine br_dec (fun hb => ?_) (fun hb => ?_) | with_reducible refine br_ndec (fun hb => ?_) (fun hb => ?_) | with_reducible refine br_bool (fun hb => ?_) (fun hb => ?_) | with_reducible refine pk_dec (fun hb => ?_) (fun hb => ?_) | with_reducible refine pk_ndec (fun hb => ?_) (fun hb => ?_) | with_reducible refine awp_drawA T_tt mixed (by decide +kernel) (by kernel_rfl) (by kernel_rfl) ?_ | simp (disch := omega) only [SX0, SX1, SX2, SX3, SX4, SX5, SX6, SX7, SX8, SU0, SY0, SY1, Nat.reduceAdd, Nat.reduceMul, Nat.reduceSub, Nat.reduceLeDiff, Nat.reduceEqDiff, Nat.reduceLT, Nat.reduceBEq, ↓reduceIte, Int.reduceLE, Int.reduceLT, Int.reduceToNat, Int.reduceNeg, reduceCtorEq, Int.reduceEq, SF0, SF1, SF2, DCg0, DCe0, DCa0, DCa1, DDb0, DBc0, DBa0, DDc0]
    all_goals first
      | (refine ⟨true, ?_⟩; (refine wk_le ?_ ?_ ?_; (focus (simp [W8, leTm, leAV, AV.under, underL, rdr, wkc]; done)); (focus (simp [leL, OB.under, underL, AV.under, rdr, wkc]; done)); (focus (simp; done))))
      | (refine ⟨false, ?_⟩; (refine wk_le ?_ ?_ ?_; (focus (simp [W8, leTm, leAV, AV.under, underL, rdr, wkc]; done)); (focus (simp [leL, OB.under, underL, AV.under, rdr, wkc]; done)); (focus (simp; done))))
      | (refine ⟨!decide (w = h), ?_⟩; (refine wk_le ?_ ?_ ?_; (focus (simp [W8, leTm, leAV, AV.under, underL, rdr, wkc]; done)); (focus (simp [leL, OB.under, underL, AV.under, rdr, wkc]; done)); (focus (simp; done))))
  refine awp_cut (bl := []) T_tt (G := Pane × Int) (fun g => g.1.Small ∧ p + 2 ≤ g.2 ∧ g.2 ≤ p + 4) 21 140 (fun _ => [(20, .ptr 4 0)]) (fun g => [rdr xs (g.2), wkc W H Ps.length, .vec 4 (Ps.map Pane.cs), .cells [.val (.int .i64 0), .val (.int .i64 0), .val (.int .i64 0), .val (.bool false), .val (.slice none 0 0)], .cells g.1.cs]) ?_ fun g hg => ?_
  · simp (disch := omega) only [SX0, SX1, SX2, SX3, SX4, SX5, SX6, SX7, SX8, SU0, SY0, SY1, Nat.reduceAdd, Nat.reduceMul, Nat.reduceSub, Nat.reduceLeDiff, Nat.reduceEqDiff, Nat.reduceLT, Nat.reduceBEq, ↓reduceIte, Int.reduceLE, Int.reduceLT, Int.reduceToNat, Int.reduceNeg, reduceCtorEq, Int.reduceEq, SF0, SF1, SF2, DCg0, DCe0, DCa0, DCa1, DDb0, DBc0, DBa0, DDc0]
    refine br_bool (fun htu => ?_) (fun htu => ?_)
    · simp (disch := omega) only [SX0, SX1, SX2, SX3, SX4, SX5, SX6, SX7, SX8, SU0, SY0, SY1, Nat.reduceAdd, Nat.reduceMul, Nat.reduceSub, Nat.reduceLeDiff, Nat.reduceEqDiff, Nat.reduceLT, Nat.reduceBEq, ↓reduceIte, Int.reduceLE, Int.reduceLT, Int.reduceToNat, Int.reduceNeg, reduceCtorEq, Int.reduceEq, SF0, SF1, SF2, DCg0, DCe0, DCa0, DCa1, DDb0, DBc0, DBa0, DDc0]
      refine pick_call hx hl (by omega) rfl fun v hv1 hv2 hv3 => ?_
      have hv2 := hv2 (by omega)
      simp (disch := omega) only [SX0, SX1, SX2, SX3, SX4, SX5, SX6, SX7, SX8, SU0, SY0, SY1, Nat.reduceAdd, Nat.reduceMul, Nat.reduceSub, Nat.reduceLeDiff, Nat.reduceEqDiff, Nat.reduceLT, Nat.reduceBEq, ↓reduceIte, Int.reduceLE, Int.reduceLT, Int.reduceToNat, Int.reduceNeg, reduceCtorEq, Int.reduceEq, SF0, SF1, SF2, DCg0, DCe0, DCa0, DCa1, DDb0, DBc0, DBa0, DDc0]
      refine ⟨(⟨w, h, true, v⟩, p + 2 + 1), ⟨by simp only [Pane.Small]; omega, by simp only []; omega, by simp only []; omega⟩, ?_⟩
      (refine wk_le ?_ ?_ ?_; (focus (simp [W8, leTm, leAV, AV.under, underL, rdr, wkc, Pane.cs]; done)); (focus (simp [leL, OB.under, underL, AV.under, rdr, wkc, Pane.cs]; done)); (focus (simp; done)))
    · simp (disch := omega) only [SX0, SX1, SX2, SX3, SX4, SX5, SX6, SX7, SX8, SU0, SY0, SY1, Nat.reduceAdd, Nat.reduceMul, Nat.reduceSub, Nat.reduceLeDiff, Nat.reduceEqDiff, Nat.reduceLT, Nat.reduceBEq, ↓reduceIte, Int.reduceLE, Int.reduceLT, Int.reduceToNat, Int.reduceNeg, reduceCtorEq, Int.reduceEq, SF0, SF1, SF2, DCg0, DCe0, DCa0, DCa1, DDb0, DBc0, DBa0, DDc0]
      refine pick_call hx hl (by omega) rfl fun u hu1 hu2 hu3 => ?_
      simp (disch := omega) only [SX0, SX1, SX2, SX3, SX4, SX5, SX6, SX7, SX8, SU0, SY0, SY1, Nat.reduceAdd, Nat.reduceMul, Nat.reduceSub, Nat.reduceLeDiff, Nat.reduceEqDiff, Nat.reduceLT, Nat.reduceBEq, ↓reduceIte, Int.reduceLE, Int.reduceLT, Int.reduceToNat, Int.reduceNeg, reduceCtorEq, Int.reduceEq, SF0, SF1, SF2, DCg0, DCe0, DCa0, DCa1, DDb0, DBc0, DBa0, DDc0]
      refine pick_call hx hl (by omega) rfl fun v hv1 hv2 hv3 => ?_
      have hv2 := hv2 (by omega)
      simp (disch := omega) only [SX0, SX1, SX2, SX3, SX4, SX5, SX6, SX7, SX8, SU0, SY0, SY1, Nat.reduceAdd, Nat.reduceMul, Nat.reduceSub, Nat.reduceLeDiff, Nat.reduceEqDiff, Nat.reduceLT, Nat.reduceBEq, ↓reduceIte, Int.reduceLE, Int.reduceLT, Int.reduceToNat, Int.reduceNeg, reduceCtorEq, Int.reduceEq, SF0, SF1, SF2, DCg0, DCe0, DCa0, DCa1, DDb0, DBc0, DBa0, DDc0]
      refine ⟨(⟨w, h, decide (u = 0), v⟩, p + 2 + 1 + 1), ⟨by simp only [Pane.Small]; omega, by simp only []; omega, by simp only []; omega⟩, ?_⟩
      (refine wk_le ?_ ?_ ?_; (focus (simp [W8, leTm, leAV, AV.under, underL, rdr, wkc, Pane.cs]; done)); (focus (simp [leL, OB.under, underL, AV.under, rdr, wkc, Pane.cs]; done)); (focus (simp; done)))
  obtain ⟨g, p2⟩ := g
  simp only at hg
  refine awp_cut (bl := []) T_tt (G := Pane) (fun g => g.Small) 21 140 (fun _ => [(20, .ptr 4 0)]) (fun g => [rdr xs (p2), wkc W H Ps.length, .vec 4 (Ps.map Pane.cs), .cells [.val (.int .i64 0), .val (.int .i64 0), .val (.int .i64 0), .val (.bool false), .val (.slice none 0 0)], .cells g.cs]) ?_ fun q hq => ?_
  · simp (disch := omega) only [SX0, SX1, SX2, SX3, SX4, SX5, SX6, SX7, SX8, SU0, SY0, SY1, Nat.reduceAdd, Nat.reduceMul, Nat.reduceSub, Nat.reduceLeDiff, Nat.reduceEqDiff, Nat.reduceLT, Nat.reduceBEq, ↓reduceIte, Int.reduceLE, Int.reduceLT, Int.reduceToNat, Int.reduceNeg, reduceCtorEq, Int.reduceEq, SF0, SF1, SF2, DCg0, DCe0, DCa0, DCa1, DDb0, DBc0, DBa0, DDc0]
    refine br_bool (fun htu => ?_) (fun htu => ?_)
    · simp (disch := omega) only [SX0, SX1, SX2, SX3, SX4, SX5, SX6, SX7, SX8, SU0, SY0, SY1, Nat.reduceAdd, Nat.reduceMul, Nat.reduceSub, Nat.reduceLeDiff, Nat.reduceEqDiff, Nat.reduceLT, Nat.reduceBEq, ↓reduceIte, Int.reduceLE, Int.reduceLT, Int.reduceToNat, Int.reduceNeg, reduceCtorEq, Int.reduceEq, SF0, SF1, SF2, DCg0, DCe0, DCa0, DCa1, DDb0, DBc0, DBa0, DDc0, Pane.cs]
      refine ⟨⟨h, w, g.Tu, g.Ki⟩, by have := hg.1.2.2; simp only [Pane.Small]; omega, ?_⟩
      (refine wk_le ?_ ?_ ?_; (focus (simp [W8, leTm, leAV, AV.under, underL, rdr, wkc, Pane.cs]; done)); (focus (simp [leL, OB.under, underL, AV.under, rdr, wkc, Pane.cs]; done)); (focus (simp; done)))
    · simp (disch := omega) only [SX0, SX1, SX2, SX3, SX4, SX5, SX6, SX7, SX8, SU0, SY0, SY1, Nat.reduceAdd, Nat.reduceMul, Nat.reduceSub, Nat.reduceLeDiff, Nat.reduceEqDiff, Nat.reduceLT, Nat.reduceBEq, ↓reduceIte, Int.reduceLE, Int.reduceLT, Int.reduceToNat, Int.reduceNeg, reduceCtorEq, Int.reduceEq, SF0, SF1, SF2, DCg0, DCe0, DCa0, DCa1, DDb0, DBc0, DBa0, DDc0]
      refine ⟨g, hg.1, ?_⟩
      (refine wk_le ?_ ?_ ?_; (focus (simp [W8, leTm, leAV, AV.under, underL, rdr, wkc, Pane.cs]; done)); (focus (simp [leL, OB.under, underL, AV.under, rdr, wkc, Pane.cs]; done)); (focus (simp; done)))
  refine awp_step (bl := []) T_tt ?_
  simp (disch := omega) only [SX0, SX1, SX2, SX3, SX4, SX5, SX6, SX7, SX8, SU0, SY0, SY1, Nat.reduceAdd, Nat.reduceMul, Nat.reduceSub, Nat.reduceLeDiff, Nat.reduceEqDiff, Nat.reduceLT, Nat.reduceBEq, ↓reduceIte, Int.reduceLE, Int.reduceLT, Int.reduceToNat, Int.reduceNeg, reduceCtorEq, Int.reduceEq, SF0, SF1, SF2, DCg0, DCe0, DCa0, DCa1, DDb0, DBc0, DBa0, DDc0]
  refine awp_float (bl := []) T_tt mixed [0, 1, 3, 4] [0, 1, 2, 3, 5, 6] [(4, [(1, .f 161), (2, .f 162), (3, .f 163)]), (7, [(5, .f 165), (6, .f 166)]), (8, [(0, .f 160)]), (9, []), (10, [])] [] (by kernel_rfl) (by kernel_rfl) ?_
  simp (disch := omega) only [SX0, SX1, SX2, SX3, SX4, SX5, SX6, SX7, SX8, SU0, SY0, SY1, Nat.reduceAdd, Nat.reduceMul, Nat.reduceSub, Nat.reduceLeDiff, Nat.reduceEqDiff, Nat.reduceLT, Nat.reduceBEq, ↓reduceIte, Int.reduceLE, Int.reduceLT, Int.reduceToNat, Int.reduceNeg, reduceCtorEq, Int.reduceEq, SF0, SF1, SF2, DCg0, DCe0, DCa0, DCa1, DDb0, DBc0, DBa0, DDc0]
  refine req (by decide) ?_
  simp (disch := omega) only [SX0, SX1, SX2, SX3, SX4, SX5, SX6, SX7, SX8, SU0, SY0, SY1, Nat.reduceAdd, Nat.reduceMul, Nat.reduceSub, Nat.reduceLeDiff, Nat.reduceEqDiff, Nat.reduceLT, Nat.reduceBEq, ↓reduceIte, Int.reduceLE, Int.reduceLT, Int.reduceToNat, Int.reduceNeg, reduceCtorEq, Int.reduceEq, SF0, SF1, SF2, DCg0, DCe0, DCa0, DCa1, DDb0, DBc0, DBa0, DDc0]
  refine req (by omega) ?_
  simp (disch := omega) only [SX0, SX1, SX2, SX3, SX4, SX5, SX6, SX7, SX8, SU0, SY0, SY1, Nat.reduceAdd, Nat.reduceMul, Nat.reduceSub, Nat.reduceLeDiff, Nat.reduceEqDiff, Nat.reduceLT, Nat.reduceBEq, ↓reduceIte, Int.reduceLE, Int.reduceLT, Int.reduceToNat, Int.reduceNeg, reduceCtorEq, Int.reduceEq, SF0, SF1, SF2, DCg0, DCe0, DCa0, DCa1, DDb0, DBc0, DBa0, DDc0]
  refine awp_end (bl := []) T_tt ?_
  simp (disch := omega) only [SX0, SX1, SX2, SX3, SX4, SX5, SX6, SX7, SX8, SU0, SY0, SY1, Nat.reduceAdd, Nat.reduceMul, Nat.reduceSub, Nat.reduceLeDiff, Nat.reduceEqDiff, Nat.reduceLT, Nat.reduceBEq, ↓reduceIte, Int.reduceLE, Int.reduceLT, Int.reduceToNat, Int.reduceNeg, reduceCtorEq, Int.reduceEq, SF0, SF1, SF2, DCg0, DCe0, DCa0, DCa1, DDb0, DBc0, DBa0, DDc0]
  refine fin_nrm ?_
  simp only [AV.nrm, nrmL]
  exact fin_ks [0, 1, 2] (.agg (Plan.mk 1 0 Ps.length tu []).cs) [rdr xs p2, wkc W H (Ps ++ [q]).length, .vec 4 ((Ps ++ [q]).map Pane.cs)] ⟨_, p2, Ps ++ [q], rfl, rfl, .mk (by omega) (by omega) (by omega) (by simp) (by simp), ⟨by omega, by omega⟩, by simp; omega, fun y hy => by
    rcases List.mem_append.1 hy with hy | hy
    · exact hPq y hy
    · simp at hy; subst hy; exact hq⟩ (by simp [Plan.cs_eq, Plan.op, Plan.at_, Plan.pa, Plan.tu, Plan.ks, AV.ren, renL]) (by simp [keepL, nameK, rdr, wkc, OB.ren, AV.ren]) (by simp) (by simp) (by simp)
end Go.Pc
