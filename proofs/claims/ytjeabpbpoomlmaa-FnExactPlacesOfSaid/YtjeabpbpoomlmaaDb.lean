/- Works; plans that fit. -/
import Derived.Test.YtjeabpbpoomlmaaDa
set_option linter.unusedSimpArgs false
set_option linter.unusedVariables false
namespace Go.Pc
open Go Go.Proofs

structure Work where
  W : Int
  H : Int
  Ps : List Pane

def Work.cs (k : Work) : List AV := [.val (.int .i64 k.W), .val (.int .i64 k.H), .sl (k.Ps.map Pane.cs)]
theorem Work.len (k : Work) : k.cs.length = 3 := rfl
theorem Work.take (k : Work) : k.cs.take 3 = k.cs := rfl
theorem Work.g0 (k : Work) : k.cs[0]? = some (.val (.int .i64 k.W)) := rfl
theorem Work.g1 (k : Work) : k.cs[1]? = some (.val (.int .i64 k.H)) := rfl
theorem Work.g2 (k : Work) : k.cs[2]? = some (.sl (k.Ps.map Pane.cs)) := rfl
theorem Work.free (k : Work) : freeL k.cs = true := rfl

theorem Work.one (k : Work) : k.cs.all AV.one = true := rfl
theorem Work.pure (k : Work) : k.cs.all AV.pure = true := rfl
theorem Work.filtd (f : Nat → Bool) (p : Work) : filtL f p.cs = p.cs := (free_filt_aux f).2 _ p.free
theorem Work.rend (f : Nat → Nat) (p : Work) : renL f p.cs = p.cs := freeL_rend f p.free
theorem DDb0 : type_of% @Work.one ∧ type_of% @Work.pure ∧ type_of% @Work.rend ∧ type_of% @Work.filtd ∧ type_of% @Work.len ∧ type_of% @Work.take ∧ type_of% @Work.g0 ∧ type_of% @Work.g1 ∧ type_of% @Work.g2 := ⟨@Work.one, @Work.pure, @Work.rend, @Work.filtd, @Work.len, @Work.take, @Work.g0, @Work.g1, @Work.g2⟩
/-- A pane fills a glass. -/
def fills (k : Work) (pa : Int) (tu : Bool) (w h : Int) : Bool :=
  if pa < 0 then false else
  match k.Ps[pa.toNat]? with
  | none => false
  | some q => if tu then q.Tu && decide (q.W ≠ q.H) && decide (q.H = w) && decide (q.W = h) else decide (q.W = w) && decide (q.H = h)

/-- A plan fits a glass. -/
def Plan.fits (k : Work) : Plan → Int → Int → Bool
  | .mk op at_ pa tu ks, w, h =>
    if op = 1 then fills k pa tu w h
    else if op = 2 then
      match ks with
      | [a, b] => decide (1 ≤ at_ ∧ at_ ≤ w - 1) && a.fits k at_ h && b.fits k (w - at_) h
      | _ => false
    else if op = 3 then
      match ks with
      | [a, b] => decide (1 ≤ at_ ∧ at_ ≤ h - 1) && a.fits k w at_ && b.fits k w (h - at_)
      | _ => false
    else true

theorem Plan.two {p : Plan} (hw : p.wf = true) (hc : p.cut) : ∃ a b, p.ks = [a, b] ∧ a.wf = true ∧ b.wf = true ∧ a.nodes < p.nodes ∧ b.nodes < p.nodes := by
  obtain ⟨h1, h2⟩ := (Plan.wf_iff p).1 hw
  unfold Plan.good at h1
  rw [if_pos hc] at h1
  obtain ⟨a, b, hab⟩ : ∃ a b, p.ks = [a, b] := by
    match hk : p.ks, h1.1 with
    | [a, b], _ => exact ⟨a, b, rfl⟩
  exact ⟨a, b, hab, h2 a (by simp [hab]), h2 b (by simp [hab]), Plan.nodes_kid (by simp [hab]), Plan.nodes_kid (by simp [hab])⟩

theorem Plan.fits_pane (k : Work) (p : Plan) (w h : Int) (ho : p.op = 1) : p.fits k w h = fills k p.pa p.tu w h := by
  cases p; simp only [Plan.op] at ho; rw [Plan.fits.eq_def]; simp [ho, Plan.pa, Plan.tu]
theorem Plan.fits_down (k : Work) (p a b : Plan) (w h : Int) (ho : p.op = 2) (hk : p.ks = [a, b]) : p.fits k w h = (decide (1 ≤ p.at_) && decide (p.at_ ≤ w - 1) && a.fits k p.at_ h && b.fits k (w - p.at_) h) := by
  cases p; simp only [Plan.op, Plan.ks] at ho hk; subst hk; rw [Plan.fits.eq_def]; simp [ho, Plan.at_, Bool.decide_and] <;> rfl
theorem Plan.fits_across (k : Work) (p a b : Plan) (w h : Int) (ho : p.op = 3) (hk : p.ks = [a, b]) : p.fits k w h = (decide (1 ≤ p.at_) && decide (p.at_ ≤ h - 1) && a.fits k w p.at_ && b.fits k w (h - p.at_)) := by
  cases p; simp only [Plan.op, Plan.ks] at ho hk; subst hk; rw [Plan.fits.eq_def]; simp [ho, Plan.at_, Bool.decide_and] <;> rfl
theorem Plan.fits_else (k : Work) (p : Plan) (w h : Int) (h1 : p.op ≠ 1) (h2 : p.op ≠ 2) (h3 : p.op ≠ 3) : p.fits k w h = true := by
  cases p; simp only [Plan.op] at h1 h2 h3; rw [Plan.fits.eq_def]; simp [h1, h2, h3]

theorem fills_out (k : Work) (pa : Int) (tu : Bool) (w h : Int) (hh : ¬ (0 ≤ pa ∧ pa ≤ (k.Ps.length : Int) - 1)) : fills k pa tu w h = false := by
  unfold fills
  split
  · rfl
  · rw [List.getElem?_eq_none (by omega)]
theorem fills_in {k : Work} {pa : Int} {q : Pane} (hq : k.Ps[pa.toNat]? = some q) (h0 : 0 ≤ pa) (tu : Bool) (w h : Int) : fills k pa tu w h = if tu then q.Tu && decide (q.W ≠ q.H) && decide (q.H = w) && decide (q.W = h) else decide (q.W = w) && decide (q.H = h) := by
  unfold fills
  rw [if_neg (by omega), hq]

theorem e_fitsS : Enters Try.prog 129 := enters_of Try.func129 (by kernel_rfl) (by kernel_rfl)
set_option maxRecDepth 8000 in
set_option maxHeartbeats 4000000 in
theorem fitsS_n (k : Work) (hk : k.Ps.length < 2 ^ 40) : ∀ (n : Nat) (p : Plan) (w h : Int), p.nodes ≤ n → p.wf = true → (-1000000000000 ≤ w ∧ w ≤ 1000000000000) → (-1000000000000 ≤ h ∧ h ≤ 1000000000000) →
    ACalls Try.prog 129 [.agg k.cs, .agg p.cs, .val (.int .i64 w), .val (.int .i64 h)] [] [] (fun r L => r = .val (.bool (p.fits k w h)) ∧ L = []) := by
  intro n
  induction n with
  | zero => intro p w h hn; have := p.nodes_pos; omega
  | succ n ih =>
  intro p w h hn hwf hw hh
  refine acalls_tm T_tt Try.func129 rfl e_fitsS 119 rfl (W8 _ _ _ _ .any .any .any .any (W8 .any .any .any .any .any .any .any .any (W8 .any .any .any .any .any .any .any .any (W8 .any .any .any .any .any .any .any .any (W8 .any .any .any .any .any .any .any .any (W8 .any .any .any .any .any .any .any .any (W8 .any .any .any .any .any .any .any .any (W8 .any .any .any .any .any .any .any .any (W8 .any .any .any .any .any .any .any .any (W8 .any .any .any .any .any .any .any .any (W8 .any .any .any .any .any .any .any .any (W8 .any .any .any .any .any .any .any .any (W8 .any .any .any .any .any .any .any .any (W8 .any .any .any .any .any .any .any .any (W8 .any .any .any .any .any .any .any .any [.any, .any, .any]))))))))))))))) rfl (rv := [.tmp 8]) rfl (sx_sound (bl := []) T_tt _ _ _ ?_)
  simp (disch := omega) only [SX0, SX1, SX2, SX3, SX4, SX5, SX6, SX7, SX8, SU0, SY0, SY1, Nat.reduceAdd, Nat.reduceMul, Nat.reduceSub, Nat.reduceLeDiff, Nat.reduceEqDiff, Nat.reduceLT, Nat.reduceBEq, ↓reduceIte, Int.reduceLE, Int.reduceLT, Int.reduceToNat, Int.reduceNeg, reduceCtorEq, Int.reduceEq, SF0, SF1, SF2, DBc0, DBa0, DDb0, Plan.len, Plan.take, Plan.g0, Plan.g1, Plan.g2, Plan.g3, Plan.g4, Plan.one, Plan.pure, Work.len, Work.take, Work.g0, Work.g1, Work.g2, Pane.len, Pane.take, Pane.g0, Pane.g1, Pane.g2, Pane.g3, Pane.one, Pane.pure]
  refine br_dec (fun h1 => ?_) (fun h1 => ?_)
  · simp (disch := omega) only [SX0, SX1, SX2, SX3, SX4, SX5, SX6, SX7, SX8, SU0, SY0, SY1, Nat.reduceAdd, Nat.reduceMul, Nat.reduceSub, Nat.reduceLeDiff, Nat.reduceEqDiff, Nat.reduceLT, Nat.reduceBEq, ↓reduceIte, Int.reduceLE, Int.reduceLT, Int.reduceToNat, Int.reduceNeg, reduceCtorEq, Int.reduceEq, SF0, SF1, SF2, DBc0, DBa0, DDb0, Plan.len, Plan.take, Plan.g0, Plan.g1, Plan.g2, Plan.g3, Plan.g4, Plan.one, Plan.pure, Work.len, Work.take, Work.g0, Work.g1, Work.g2, Pane.len, Pane.take, Pane.g0, Pane.g1, Pane.g2, Pane.g3, Pane.one, Pane.pure]
    refine acall_one (inRange_c _ _ _) rfl rfl ?_
    simp (disch := omega) only [SX0, SX1, SX2, SX3, SX4, SX5, SX6, SX7, SX8, SU0, SY0, SY1, Nat.reduceAdd, Nat.reduceMul, Nat.reduceSub, Nat.reduceLeDiff, Nat.reduceEqDiff, Nat.reduceLT, Nat.reduceBEq, ↓reduceIte, Int.reduceLE, Int.reduceLT, Int.reduceToNat, Int.reduceNeg, reduceCtorEq, Int.reduceEq, SF0, SF1, SF2, DBc0, DBa0, DDb0]
    refine br_ndec (fun h2 => ?_) (fun h2 => ?_)
    · simp (disch := omega) only [SX0, SX1, SX2, SX3, SX4, SX5, SX6, SX7, SX8, SU0, SY0, SY1, Nat.reduceAdd, Nat.reduceMul, Nat.reduceSub, Nat.reduceLeDiff, Nat.reduceEqDiff, Nat.reduceLT, Nat.reduceBEq, ↓reduceIte, Int.reduceLE, Int.reduceLT, Int.reduceToNat, Int.reduceNeg, reduceCtorEq, Int.reduceEq, SF0, SF1, SF2, DBc0, DBa0, DDb0]
      refine fin_val ⟨?_, rfl⟩
      rw [Plan.fits_pane k p w h h1, fills_out k _ _ _ _ h2]
    · obtain ⟨q, hq⟩ := get_lt (l := k.Ps) (i := p.pa.toNat) (by omega)
      have h0 : (0 ≤ p.pa) = True := eq_true h2.1
      simp (disch := omega) only [SX0, SX1, SX2, SX3, SX4, SX5, SX6, SX7, SX8, SU0, SY0, SY1, Nat.reduceAdd, Nat.reduceMul, Nat.reduceSub, Nat.reduceLeDiff, Nat.reduceEqDiff, Nat.reduceLT, Nat.reduceBEq, ↓reduceIte, Int.reduceLE, Int.reduceLT, Int.reduceToNat, Int.reduceNeg, reduceCtorEq, Int.reduceEq, SF0, SF1, SF2, DBc0, DBa0, DDb0, hq, h0, Plan.len, Plan.take, Plan.g0, Plan.g1, Plan.g2, Plan.g3, Plan.g4, Plan.one, Plan.pure, Work.len, Work.take, Work.g0, Work.g1, Work.g2, Pane.len, Pane.take, Pane.g0, Pane.g1, Pane.g2, Pane.g3, Pane.one, Pane.pure]
      repeat' first | with_reducible refine fin_val ⟨?_, rfl⟩ | with_reducible refine br_dec (fun hb => ?_) (fun hb => ?_) | with_reducible refine br_ndec (fun hb => ?_) (fun hb => ?_) | with_reducible refine br_bool (fun hb => ?_) (fun hb => ?_) | with_reducible refine pk_dec (fun hb => ?_) (fun hb => ?_) | with_reducible refine pk_ndec (fun hb => ?_) (fun hb => ?_) | with_reducible refine awp_drawA T_tt mixed (by decide +kernel) (by kernel_rfl) (by kernel_rfl) ?_ | simp (disch := omega) only [SX0, SX1, SX2, SX3, SX4, SX5, SX6, SX7, SX8, SU0, SY0, SY1, Nat.reduceAdd, Nat.reduceMul, Nat.reduceSub, Nat.reduceLeDiff, Nat.reduceEqDiff, Nat.reduceLT, Nat.reduceBEq, ↓reduceIte, Int.reduceLE, Int.reduceLT, Int.reduceToNat, Int.reduceNeg, reduceCtorEq, Int.reduceEq, SF0, SF1, SF2, DBc0, DBa0, DDb0, Work.len, Work.take, Work.g0, Work.g1, Work.g2, Pane.len, Pane.take, Pane.g0, Pane.g1, Pane.g2, Pane.g3, Pane.one, Pane.pure, Plan.len, Plan.take, Plan.g0, Plan.g1, Plan.g2, Plan.g3, Plan.g4, Plan.one, Plan.pure]
      all_goals rw [Plan.fits_pane k p w h h1, fills_in hq h2.1]
      all_goals simp_all
  · simp (disch := omega) only [SX0, SX1, SX2, SX3, SX4, SX5, SX6, SX7, SX8, SU0, SY0, SY1, Nat.reduceAdd, Nat.reduceMul, Nat.reduceSub, Nat.reduceLeDiff, Nat.reduceEqDiff, Nat.reduceLT, Nat.reduceBEq, ↓reduceIte, Int.reduceLE, Int.reduceLT, Int.reduceToNat, Int.reduceNeg, reduceCtorEq, Int.reduceEq, SF0, SF1, SF2, DBc0, DBa0, DDb0, Plan.len, Plan.take, Plan.g0, Plan.g1, Plan.g2, Plan.g3, Plan.g4, Plan.one, Plan.pure, Work.len, Work.take, Work.g0, Work.g1, Work.g2, Pane.len, Pane.take, Pane.g0, Pane.g1, Pane.g2, Pane.g3, Pane.one, Pane.pure]
    refine br_dec (fun h2 => ?_) (fun h2 => ?_)
    · simp (disch := omega) only [SX0, SX1, SX2, SX3, SX4, SX5, SX6, SX7, SX8, SU0, SY0, SY1, Nat.reduceAdd, Nat.reduceMul, Nat.reduceSub, Nat.reduceLeDiff, Nat.reduceEqDiff, Nat.reduceLT, Nat.reduceBEq, ↓reduceIte, Int.reduceLE, Int.reduceLT, Int.reduceToNat, Int.reduceNeg, reduceCtorEq, Int.reduceEq, SF0, SF1, SF2, DBc0, DBa0, DDb0, Plan.len, Plan.take, Plan.g0, Plan.g1, Plan.g2, Plan.g3, Plan.g4, Plan.one, Plan.pure, Work.len, Work.take, Work.g0, Work.g1, Work.g2, Pane.len, Pane.take, Pane.g0, Pane.g1, Pane.g2, Pane.g3, Pane.one, Pane.pure]
      obtain ⟨a, b, hab, ha, hb, na, nb⟩ := Plan.two hwf (.inl h2)
      refine awp_draw (bl := []) T_tt mixed 30 (by decide) (by kernel_rfl) (.inl rfl) (by kernel_rfl) ?_
      simp (disch := omega) only [SX0, SX1, SX2, SX3, SX4, SX5, SX6, SX7, SX8, SU0, SY0, SY1, Nat.reduceAdd, Nat.reduceMul, Nat.reduceSub, Nat.reduceLeDiff, Nat.reduceEqDiff, Nat.reduceLT, Nat.reduceBEq, ↓reduceIte, Int.reduceLE, Int.reduceLT, Int.reduceToNat, Int.reduceNeg, reduceCtorEq, Int.reduceEq, SF0, SF1, SF2, DBc0, DBa0, DDb0, hab, Plan.len, Plan.take, Plan.g0, Plan.g1, Plan.g2, Plan.g3, Plan.g4, Plan.one, Plan.pure, Work.len, Work.take, Work.g0, Work.g1, Work.g2, Pane.len, Pane.take, Pane.g0, Pane.g1, Pane.g2, Pane.g3, Pane.one, Pane.pure]
      refine qc_one (inRange_c _ _ _) rfl ?_
      simp (disch := omega) only [SX0, SX1, SX2, SX3, SX4, SX5, SX6, SX7, SX8, SU0, SY0, SY1, Nat.reduceAdd, Nat.reduceMul, Nat.reduceSub, Nat.reduceLeDiff, Nat.reduceEqDiff, Nat.reduceLT, Nat.reduceBEq, ↓reduceIte, Int.reduceLE, Int.reduceLT, Int.reduceToNat, Int.reduceNeg, reduceCtorEq, Int.reduceEq, SF0, SF1, SF2, DBc0, DBa0, DDb0]
      by_cases hr : 1 ≤ p.at_ ∧ p.at_ ≤ w - 1
      · simp (disch := omega) only [SX0, SX1, SX2, SX3, SX4, SX5, SX6, SX7, SX8, SU0, SY0, SY1, Nat.reduceAdd, Nat.reduceMul, Nat.reduceSub, Nat.reduceLeDiff, Nat.reduceEqDiff, Nat.reduceLT, Nat.reduceBEq, ↓reduceIte, Int.reduceLE, Int.reduceLT, Int.reduceToNat, Int.reduceNeg, reduceCtorEq, Int.reduceEq, SF0, SF1, SF2, DBc0, DBa0, DDb0, hr, hab, Plan.len, Plan.take, Plan.g0, Plan.g1, Plan.g2, Plan.g3, Plan.g4, Plan.one, Plan.pure, Work.len, Work.take, Work.g0, Work.g1, Work.g2, Pane.len, Pane.take, Pane.g0, Pane.g1, Pane.g2, Pane.g3, Pane.one, Pane.pure]
        refine qc_one (ih a p.at_ h (by omega) ha (by omega) (by omega)) (by simp [freeL, AV.free, Plan.free, Work.free]) ?_
        simp (disch := omega) only [SX0, SX1, SX2, SX3, SX4, SX5, SX6, SX7, SX8, SU0, SY0, SY1, Nat.reduceAdd, Nat.reduceMul, Nat.reduceSub, Nat.reduceLeDiff, Nat.reduceEqDiff, Nat.reduceLT, Nat.reduceBEq, ↓reduceIte, Int.reduceLE, Int.reduceLT, Int.reduceToNat, Int.reduceNeg, reduceCtorEq, Int.reduceEq, SF0, SF1, SF2, DBc0, DBa0, DDb0, hab, Plan.len, Plan.take, Plan.g0, Plan.g1, Plan.g2, Plan.g3, Plan.g4, Plan.one, Plan.pure, Work.len, Work.take, Work.g0, Work.g1, Work.g2, Pane.len, Pane.take, Pane.g0, Pane.g1, Pane.g2, Pane.g3, Pane.one, Pane.pure]
        refine br_bool (fun hc => ?_) (fun hc => ?_)
        · simp (disch := omega) only [SX0, SX1, SX2, SX3, SX4, SX5, SX6, SX7, SX8, SU0, SY0, SY1, Nat.reduceAdd, Nat.reduceMul, Nat.reduceSub, Nat.reduceLeDiff, Nat.reduceEqDiff, Nat.reduceLT, Nat.reduceBEq, ↓reduceIte, Int.reduceLE, Int.reduceLT, Int.reduceToNat, Int.reduceNeg, reduceCtorEq, Int.reduceEq, SF0, SF1, SF2, DBc0, DBa0, DDb0, hab, Plan.len, Plan.take, Plan.g0, Plan.g1, Plan.g2, Plan.g3, Plan.g4, Plan.one, Plan.pure, Work.len, Work.take, Work.g0, Work.g1, Work.g2, Pane.len, Pane.take, Pane.g0, Pane.g1, Pane.g2, Pane.g3, Pane.one, Pane.pure]
          refine qc_one (ih b (w - p.at_) h (by omega) hb (by omega) (by omega)) (by simp [freeL, AV.free, Plan.free, Work.free]) ?_
          simp (disch := omega) only [SX0, SX1, SX2, SX3, SX4, SX5, SX6, SX7, SX8, SU0, SY0, SY1, Nat.reduceAdd, Nat.reduceMul, Nat.reduceSub, Nat.reduceLeDiff, Nat.reduceEqDiff, Nat.reduceLT, Nat.reduceBEq, ↓reduceIte, Int.reduceLE, Int.reduceLT, Int.reduceToNat, Int.reduceNeg, reduceCtorEq, Int.reduceEq, SF0, SF1, SF2, DBc0, DBa0, DDb0, hab, Plan.len, Plan.take, Plan.g0, Plan.g1, Plan.g2, Plan.g3, Plan.g4, Plan.one, Plan.pure, Work.len, Work.take, Work.g0, Work.g1, Work.g2, Pane.len, Pane.take, Pane.g0, Pane.g1, Pane.g2, Pane.g3, Pane.one, Pane.pure]
          refine fin_val ⟨?_, rfl⟩
          rw [Plan.fits_down k p a b w h h2 hab]
          simp [hr, hc]
        · simp (disch := omega) only [SX0, SX1, SX2, SX3, SX4, SX5, SX6, SX7, SX8, SU0, SY0, SY1, Nat.reduceAdd, Nat.reduceMul, Nat.reduceSub, Nat.reduceLeDiff, Nat.reduceEqDiff, Nat.reduceLT, Nat.reduceBEq, ↓reduceIte, Int.reduceLE, Int.reduceLT, Int.reduceToNat, Int.reduceNeg, reduceCtorEq, Int.reduceEq, SF0, SF1, SF2, DBc0, DBa0, DDb0, hab, Plan.len, Plan.take, Plan.g0, Plan.g1, Plan.g2, Plan.g3, Plan.g4, Plan.one, Plan.pure, Work.len, Work.take, Work.g0, Work.g1, Work.g2, Pane.len, Pane.take, Pane.g0, Pane.g1, Pane.g2, Pane.g3, Pane.one, Pane.pure]
          refine fin_val ⟨?_, rfl⟩
          rw [Plan.fits_down k p a b w h h2 hab]
          simp [hc]
      · simp (disch := omega) only [SX0, SX1, SX2, SX3, SX4, SX5, SX6, SX7, SX8, SU0, SY0, SY1, Nat.reduceAdd, Nat.reduceMul, Nat.reduceSub, Nat.reduceLeDiff, Nat.reduceEqDiff, Nat.reduceLT, Nat.reduceBEq, ↓reduceIte, Int.reduceLE, Int.reduceLT, Int.reduceToNat, Int.reduceNeg, reduceCtorEq, Int.reduceEq, SF0, SF1, SF2, DBc0, DBa0, DDb0, hr, Plan.len, Plan.take, Plan.g0, Plan.g1, Plan.g2, Plan.g3, Plan.g4, Plan.one, Plan.pure, Work.len, Work.take, Work.g0, Work.g1, Work.g2, Pane.len, Pane.take, Pane.g0, Pane.g1, Pane.g2, Pane.g3, Pane.one, Pane.pure]
        refine fin_val ⟨?_, rfl⟩
        rw [Plan.fits_down k p a b w h h2 hab]
        have e : (decide (1 ≤ p.at_) && decide (p.at_ ≤ w - 1)) = false := by simp; omega
        simp [e]
    · simp (disch := omega) only [SX0, SX1, SX2, SX3, SX4, SX5, SX6, SX7, SX8, SU0, SY0, SY1, Nat.reduceAdd, Nat.reduceMul, Nat.reduceSub, Nat.reduceLeDiff, Nat.reduceEqDiff, Nat.reduceLT, Nat.reduceBEq, ↓reduceIte, Int.reduceLE, Int.reduceLT, Int.reduceToNat, Int.reduceNeg, reduceCtorEq, Int.reduceEq, SF0, SF1, SF2, DBc0, DBa0, DDb0, Plan.len, Plan.take, Plan.g0, Plan.g1, Plan.g2, Plan.g3, Plan.g4, Plan.one, Plan.pure, Work.len, Work.take, Work.g0, Work.g1, Work.g2, Pane.len, Pane.take, Pane.g0, Pane.g1, Pane.g2, Pane.g3, Pane.one, Pane.pure]
      refine br_dec (fun h3 => ?_) (fun h3 => ?_)
      · simp (disch := omega) only [SX0, SX1, SX2, SX3, SX4, SX5, SX6, SX7, SX8, SU0, SY0, SY1, Nat.reduceAdd, Nat.reduceMul, Nat.reduceSub, Nat.reduceLeDiff, Nat.reduceEqDiff, Nat.reduceLT, Nat.reduceBEq, ↓reduceIte, Int.reduceLE, Int.reduceLT, Int.reduceToNat, Int.reduceNeg, reduceCtorEq, Int.reduceEq, SF0, SF1, SF2, DBc0, DBa0, DDb0, Plan.len, Plan.take, Plan.g0, Plan.g1, Plan.g2, Plan.g3, Plan.g4, Plan.one, Plan.pure, Work.len, Work.take, Work.g0, Work.g1, Work.g2, Pane.len, Pane.take, Pane.g0, Pane.g1, Pane.g2, Pane.g3, Pane.one, Pane.pure]
        obtain ⟨a, b, hab, ha, hb, na, nb⟩ := Plan.two hwf (.inr h3)
        refine awp_draw (bl := []) T_tt mixed 30 (by decide) (by kernel_rfl) (.inl rfl) (by kernel_rfl) ?_
        simp (disch := omega) only [SX0, SX1, SX2, SX3, SX4, SX5, SX6, SX7, SX8, SU0, SY0, SY1, Nat.reduceAdd, Nat.reduceMul, Nat.reduceSub, Nat.reduceLeDiff, Nat.reduceEqDiff, Nat.reduceLT, Nat.reduceBEq, ↓reduceIte, Int.reduceLE, Int.reduceLT, Int.reduceToNat, Int.reduceNeg, reduceCtorEq, Int.reduceEq, SF0, SF1, SF2, DBc0, DBa0, DDb0, hab, Plan.len, Plan.take, Plan.g0, Plan.g1, Plan.g2, Plan.g3, Plan.g4, Plan.one, Plan.pure, Work.len, Work.take, Work.g0, Work.g1, Work.g2, Pane.len, Pane.take, Pane.g0, Pane.g1, Pane.g2, Pane.g3, Pane.one, Pane.pure]
        refine qc_one (inRange_c _ _ _) rfl ?_
        simp (disch := omega) only [SX0, SX1, SX2, SX3, SX4, SX5, SX6, SX7, SX8, SU0, SY0, SY1, Nat.reduceAdd, Nat.reduceMul, Nat.reduceSub, Nat.reduceLeDiff, Nat.reduceEqDiff, Nat.reduceLT, Nat.reduceBEq, ↓reduceIte, Int.reduceLE, Int.reduceLT, Int.reduceToNat, Int.reduceNeg, reduceCtorEq, Int.reduceEq, SF0, SF1, SF2, DBc0, DBa0, DDb0]
        by_cases hr : 1 ≤ p.at_ ∧ p.at_ ≤ h - 1
        · simp (disch := omega) only [SX0, SX1, SX2, SX3, SX4, SX5, SX6, SX7, SX8, SU0, SY0, SY1, Nat.reduceAdd, Nat.reduceMul, Nat.reduceSub, Nat.reduceLeDiff, Nat.reduceEqDiff, Nat.reduceLT, Nat.reduceBEq, ↓reduceIte, Int.reduceLE, Int.reduceLT, Int.reduceToNat, Int.reduceNeg, reduceCtorEq, Int.reduceEq, SF0, SF1, SF2, DBc0, DBa0, DDb0, hr, hab, Plan.len, Plan.take, Plan.g0, Plan.g1, Plan.g2, Plan.g3, Plan.g4, Plan.one, Plan.pure, Work.len, Work.take, Work.g0, Work.g1, Work.g2, Pane.len, Pane.take, Pane.g0, Pane.g1, Pane.g2, Pane.g3, Pane.one, Pane.pure]
          refine qc_one (ih a w p.at_ (by omega) ha (by omega) (by omega)) (by simp [freeL, AV.free, Plan.free, Work.free]) ?_
          simp (disch := omega) only [SX0, SX1, SX2, SX3, SX4, SX5, SX6, SX7, SX8, SU0, SY0, SY1, Nat.reduceAdd, Nat.reduceMul, Nat.reduceSub, Nat.reduceLeDiff, Nat.reduceEqDiff, Nat.reduceLT, Nat.reduceBEq, ↓reduceIte, Int.reduceLE, Int.reduceLT, Int.reduceToNat, Int.reduceNeg, reduceCtorEq, Int.reduceEq, SF0, SF1, SF2, DBc0, DBa0, DDb0, hab, Plan.len, Plan.take, Plan.g0, Plan.g1, Plan.g2, Plan.g3, Plan.g4, Plan.one, Plan.pure, Work.len, Work.take, Work.g0, Work.g1, Work.g2, Pane.len, Pane.take, Pane.g0, Pane.g1, Pane.g2, Pane.g3, Pane.one, Pane.pure]
          refine br_bool (fun hc => ?_) (fun hc => ?_)
          · simp (disch := omega) only [SX0, SX1, SX2, SX3, SX4, SX5, SX6, SX7, SX8, SU0, SY0, SY1, Nat.reduceAdd, Nat.reduceMul, Nat.reduceSub, Nat.reduceLeDiff, Nat.reduceEqDiff, Nat.reduceLT, Nat.reduceBEq, ↓reduceIte, Int.reduceLE, Int.reduceLT, Int.reduceToNat, Int.reduceNeg, reduceCtorEq, Int.reduceEq, SF0, SF1, SF2, DBc0, DBa0, DDb0, hab, Plan.len, Plan.take, Plan.g0, Plan.g1, Plan.g2, Plan.g3, Plan.g4, Plan.one, Plan.pure, Work.len, Work.take, Work.g0, Work.g1, Work.g2, Pane.len, Pane.take, Pane.g0, Pane.g1, Pane.g2, Pane.g3, Pane.one, Pane.pure]
            refine qc_one (ih b w (h - p.at_) (by omega) hb (by omega) (by omega)) (by simp [freeL, AV.free, Plan.free, Work.free]) ?_
            simp (disch := omega) only [SX0, SX1, SX2, SX3, SX4, SX5, SX6, SX7, SX8, SU0, SY0, SY1, Nat.reduceAdd, Nat.reduceMul, Nat.reduceSub, Nat.reduceLeDiff, Nat.reduceEqDiff, Nat.reduceLT, Nat.reduceBEq, ↓reduceIte, Int.reduceLE, Int.reduceLT, Int.reduceToNat, Int.reduceNeg, reduceCtorEq, Int.reduceEq, SF0, SF1, SF2, DBc0, DBa0, DDb0, hab, Plan.len, Plan.take, Plan.g0, Plan.g1, Plan.g2, Plan.g3, Plan.g4, Plan.one, Plan.pure, Work.len, Work.take, Work.g0, Work.g1, Work.g2, Pane.len, Pane.take, Pane.g0, Pane.g1, Pane.g2, Pane.g3, Pane.one, Pane.pure]
            refine fin_val ⟨?_, rfl⟩
            rw [Plan.fits_across k p a b w h h3 hab]
            simp [hr, hc]
          · simp (disch := omega) only [SX0, SX1, SX2, SX3, SX4, SX5, SX6, SX7, SX8, SU0, SY0, SY1, Nat.reduceAdd, Nat.reduceMul, Nat.reduceSub, Nat.reduceLeDiff, Nat.reduceEqDiff, Nat.reduceLT, Nat.reduceBEq, ↓reduceIte, Int.reduceLE, Int.reduceLT, Int.reduceToNat, Int.reduceNeg, reduceCtorEq, Int.reduceEq, SF0, SF1, SF2, DBc0, DBa0, DDb0, hab, Plan.len, Plan.take, Plan.g0, Plan.g1, Plan.g2, Plan.g3, Plan.g4, Plan.one, Plan.pure, Work.len, Work.take, Work.g0, Work.g1, Work.g2, Pane.len, Pane.take, Pane.g0, Pane.g1, Pane.g2, Pane.g3, Pane.one, Pane.pure]
            refine fin_val ⟨?_, rfl⟩
            rw [Plan.fits_across k p a b w h h3 hab]
            simp [hc]
        · simp (disch := omega) only [SX0, SX1, SX2, SX3, SX4, SX5, SX6, SX7, SX8, SU0, SY0, SY1, Nat.reduceAdd, Nat.reduceMul, Nat.reduceSub, Nat.reduceLeDiff, Nat.reduceEqDiff, Nat.reduceLT, Nat.reduceBEq, ↓reduceIte, Int.reduceLE, Int.reduceLT, Int.reduceToNat, Int.reduceNeg, reduceCtorEq, Int.reduceEq, SF0, SF1, SF2, DBc0, DBa0, DDb0, hr, Plan.len, Plan.take, Plan.g0, Plan.g1, Plan.g2, Plan.g3, Plan.g4, Plan.one, Plan.pure, Work.len, Work.take, Work.g0, Work.g1, Work.g2, Pane.len, Pane.take, Pane.g0, Pane.g1, Pane.g2, Pane.g3, Pane.one, Pane.pure]
          refine fin_val ⟨?_, rfl⟩
          rw [Plan.fits_across k p a b w h h3 hab]
          have e : (decide (1 ≤ p.at_) && decide (p.at_ ≤ h - 1)) = false := by simp; omega
          simp [e]
      · simp (disch := omega) only [SX0, SX1, SX2, SX3, SX4, SX5, SX6, SX7, SX8, SU0, SY0, SY1, Nat.reduceAdd, Nat.reduceMul, Nat.reduceSub, Nat.reduceLeDiff, Nat.reduceEqDiff, Nat.reduceLT, Nat.reduceBEq, ↓reduceIte, Int.reduceLE, Int.reduceLT, Int.reduceToNat, Int.reduceNeg, reduceCtorEq, Int.reduceEq, SF0, SF1, SF2, DBc0, DBa0, DDb0, Plan.len, Plan.take, Plan.g0, Plan.g1, Plan.g2, Plan.g3, Plan.g4, Plan.one, Plan.pure, Work.len, Work.take, Work.g0, Work.g1, Work.g2, Pane.len, Pane.take, Pane.g0, Pane.g1, Pane.g2, Pane.g3, Pane.one, Pane.pure]
        refine fin_val ⟨?_, rfl⟩
        rw [Plan.fits_else k p w h h1 h2 h3]

theorem fitsS_c (k : Work) (hk : k.Ps.length < 2 ^ 40) (p : Plan) (w h : Int) (hp : p.wf = true) (hw : -1000000000000 ≤ w ∧ w ≤ 1000000000000) (hh : -1000000000000 ≤ h ∧ h ≤ 1000000000000) :
    ACalls Try.prog 129 [.agg k.cs, .agg p.cs, .val (.int .i64 w), .val (.int .i64 h)] [] [] (fun r L => r = .val (.bool (p.fits k w h)) ∧ L = []) := fitsS_n k hk _ p w h (Nat.le_refl _) hp hw hh
end Go.Pc
