/- Plans of the program: their size, how they fit, their parts. -/
import Derived.Test.YtjeabpbpoomlmaaCc
set_option linter.unusedSimpArgs false
set_option linter.unusedVariables false
namespace Go.Pc
open Go Go.Proofs

/-- The number of parts, if there is room for it. -/
def Plan.cnt (p : Plan) (room : Int) : Int := if p.wf = true ∧ (p.nodes : Int) ≤ room then p.nodes else -1
theorem Plan.cnt_bad {p : Plan} {room : Int} (h : ¬ p.good) : p.cnt room = -1 := by
  unfold Plan.cnt
  rw [if_neg]
  exact fun hh => h ((Plan.wf_iff p).1 hh.1).1
theorem Plan.cnt_small {p : Plan} {room : Int} (h : room < 1) : p.cnt room = -1 := by
  unfold Plan.cnt
  have := p.nodes_pos
  rw [if_neg (by omega)]
theorem Plan.cnt_leaf {p : Plan} {room : Int} (h : p.good) (hc : ¬ p.cut) (hr : 1 ≤ room) : p.cnt room = 1 := by
  have hk : p.ks = [] := by
    unfold Plan.good at h
    rw [if_neg hc] at h
    exact List.length_eq_zero_iff.1 h.1
  have hw : p.wf = true := (Plan.wf_iff p).2 ⟨h, by rw [hk]; simp⟩
  unfold Plan.cnt
  rw [Plan.nodes_leaf hw hc, if_pos ⟨hw, by omega⟩]; rfl
theorem Plan.cnt_le (p : Plan) (room : Int) : -1 ≤ p.cnt room ∧ (p.cnt room ≤ room ∨ p.cnt room = -1) := by
  unfold Plan.cnt; split <;> omega
theorem Plan.cnt_first {p a b : Plan} {room : Int} (hk : p.ks = [a, b]) (h : a.cnt (room - 1) < 0) : p.cnt room = -1 := by
  unfold Plan.cnt at *
  rw [if_neg]
  intro hh
  have := Plan.nodes_two hk
  have h2 : a.wf = true := ((Plan.wf_iff p).1 hh.1).2 a (by simp [hk])
  rw [if_pos ⟨h2, by omega⟩] at h
  omega
theorem Plan.cnt_second {p a b : Plan} {room : Int} (hk : p.ks = [a, b]) (h1 : ¬ a.cnt (room - 1) < 0) (h : b.cnt (room - 1 - a.cnt (room - 1)) < 0) : p.cnt room = -1 := by
  have ha : a.cnt (room - 1) = a.nodes := by
    unfold Plan.cnt at *
    split at h1
    · rename_i hh; rw [if_pos hh]
    · omega
  rw [ha] at h
  unfold Plan.cnt at h ⊢
  rw [if_neg]
  intro hh
  have := Plan.nodes_two hk
  have h2 : b.wf = true := ((Plan.wf_iff p).1 hh.1).2 b (by simp [hk])
  rw [if_pos ⟨h2, by omega⟩] at h
  omega
theorem Plan.cnt_both {p a b : Plan} {room : Int} (hg : p.good) (hk : p.ks = [a, b]) (h1 : ¬ a.cnt (room - 1) < 0) (h : ¬ b.cnt (room - 1 - a.cnt (room - 1)) < 0) : p.cnt room = 1 + a.cnt (room - 1) + b.cnt (room - 1 - a.cnt (room - 1)) := by
  unfold Plan.cnt at *
  by_cases ha : a.wf = true ∧ (a.nodes : Int) ≤ room - 1
  · rw [if_pos ha] at *
    by_cases hb : b.wf = true ∧ (b.nodes : Int) ≤ room - 1 - a.nodes
    · rw [if_pos hb] at *
      have := Plan.nodes_two hk
      rw [if_pos ⟨(Plan.wf_iff p).2 ⟨hg, by rw [hk]; simp [ha.1, hb.1]⟩, by omega⟩]
      omega
    · rw [if_neg hb] at h; omega
  · rw [if_neg ha] at h1; omega

theorem e_countParts : Enters Try.prog 146 := enters_of Try.func146 (by kernel_rfl) (by kernel_rfl)
set_option maxHeartbeats 4000000 in
theorem countParts_n : ∀ (n : Nat) (p : Plan) (room : Int), p.nodes ≤ n → (-1000 ≤ room ∧ room ≤ 1000) →
    ACalls Try.prog 146 [.agg p.cs, .val (.int .i64 room)] [] [] (fun r L => r = .val (.int .i64 (p.cnt room)) ∧ L = []) := by
  intro n
  induction n with
  | zero => intro p room h; have := p.nodes_pos; omega
  | succ n ih =>
  intro p room hn hr
  refine acalls_tm T_tt Try.func146 rfl e_countParts 80 rfl (W8 _ _ .any .any .any .any .any .any (W8 .any .any .any .any .any .any .any .any (W8 .any .any .any .any .any .any .any .any (W8 .any .any .any .any .any .any .any .any (W8 .any .any .any .any .any .any .any .any (W8 .any .any .any .any .any .any .any .any (W8 .any .any .any .any .any .any .any .any (W8 .any .any .any .any .any .any .any .any (W8 .any .any .any .any .any .any .any .any (W8 .any .any .any .any .any .any .any .any [.any, .any])))))))))) rfl (rv := [.tmp 4]) rfl (sx_sound (bl := []) T_tt _ _ _ ?_)
  simp (disch := omega) only [SX0, SX1, SX2, SX3, SX4, SX5, SX6, SX7, SX8, SU0, SY0, SY1, Nat.reduceAdd, Nat.reduceMul, Nat.reduceSub, Nat.reduceLeDiff, Nat.reduceEqDiff, Nat.reduceLT, Nat.reduceBEq, ↓reduceIte, Int.reduceLE, Int.reduceLT, Int.reduceToNat, Int.reduceNeg, reduceCtorEq, Int.reduceEq, SF0, SF1, SF2, DCa0, DCa1, DDb0, DBc0, DBa0]
  refine br_dec (fun h => ?_) (fun h => ?_)
  · simp (disch := omega) only [SX0, SX1, SX2, SX3, SX4, SX5, SX6, SX7, SX8, SU0, SY0, SY1, Nat.reduceAdd, Nat.reduceMul, Nat.reduceSub, Nat.reduceLeDiff, Nat.reduceEqDiff, Nat.reduceLT, Nat.reduceBEq, ↓reduceIte, Int.reduceLE, Int.reduceLT, Int.reduceToNat, Int.reduceNeg, reduceCtorEq, Int.reduceEq, SF0, SF1, SF2, DCa0, DCa1, DDb0, DBc0, DBa0]
    exact fin_val ⟨by rw [Plan.cnt_small h], rfl⟩
  · repeat' first | with_reducible refine fin_val ⟨?_, rfl⟩ | with_reducible refine br_dec (fun hb => ?_) (fun hb => ?_) | with_reducible refine br_ndec (fun hb => ?_) (fun hb => ?_) | with_reducible refine br_bool (fun hb => ?_) (fun hb => ?_) | with_reducible refine pk_dec (fun hb => ?_) (fun hb => ?_) | with_reducible refine pk_ndec (fun hb => ?_) (fun hb => ?_) | with_reducible refine awp_drawA T_tt mixed (by decide +kernel) (by kernel_rfl) (by kernel_rfl) ?_ | simp (disch := omega) only [SX0, SX1, SX2, SX3, SX4, SX5, SX6, SX7, SX8, SU0, SY0, SY1, Nat.reduceAdd, Nat.reduceMul, Nat.reduceSub, Nat.reduceLeDiff, Nat.reduceEqDiff, Nat.reduceLT, Nat.reduceBEq, ↓reduceIte, Int.reduceLE, Int.reduceLT, Int.reduceToNat, Int.reduceNeg, reduceCtorEq, Int.reduceEq, SF0, SF1, SF2, DCa0, DCa1, DDb0, DBc0, DBa0]
    all_goals first
      | (rw [Plan.cnt_leaf (room := room)] <;> first | omega | (simp_all [Plan.good, Plan.cut]; done))
      | (rw [Plan.cnt_bad]; first | (simp_all [Plan.good, Plan.cut]; done) | (simp_all [Plan.good, Plan.cut]; omega))
      | (have hg : p.good := by simp_all [Plan.good, Plan.cut]; omega
         have hc : p.cut := by simp_all [Plan.cut]
         obtain ⟨a, b, hk⟩ : ∃ a b, p.ks = [a, b] := by
           have : p.ks.length = 2 := by omega
           match hk : p.ks, this with
           | [a, b], _ => exact ⟨a, b, rfl⟩
         have hna : a.nodes < p.nodes := Plan.nodes_kid (by simp [hk])
         have hnb : b.nodes < p.nodes := Plan.nodes_kid (by simp [hk])
         have ha := a.cnt_le (room - 1)
         simp (disch := omega) only [SX0, SX1, SX2, SX3, SX4, SX5, SX6, SX7, SX8, SU0, SY0, SY1, Nat.reduceAdd, Nat.reduceMul, Nat.reduceSub, Nat.reduceLeDiff, Nat.reduceEqDiff, Nat.reduceLT, Nat.reduceBEq, ↓reduceIte, Int.reduceLE, Int.reduceLT, Int.reduceToNat, Int.reduceNeg, reduceCtorEq, Int.reduceEq, SF0, SF1, SF2, DCa0, DCa1, DDb0, DBc0, DBa0, hk]
         refine acall_one (ih a (room - 1) (by omega) (by omega)) (by simp [freeL, AV.free, Plan.free]) rfl ?_
         simp (disch := omega) only [SX0, SX1, SX2, SX3, SX4, SX5, SX6, SX7, SX8, SU0, SY0, SY1, Nat.reduceAdd, Nat.reduceMul, Nat.reduceSub, Nat.reduceLeDiff, Nat.reduceEqDiff, Nat.reduceLT, Nat.reduceBEq, ↓reduceIte, Int.reduceLE, Int.reduceLT, Int.reduceToNat, Int.reduceNeg, reduceCtorEq, Int.reduceEq, SF0, SF1, SF2, DCa0, DCa1, DDb0, DBc0, DBa0]
         refine br_dec (fun h1 => ?_) (fun h1 => ?_)
         · simp (disch := omega) only [SX0, SX1, SX2, SX3, SX4, SX5, SX6, SX7, SX8, SU0, SY0, SY1, Nat.reduceAdd, Nat.reduceMul, Nat.reduceSub, Nat.reduceLeDiff, Nat.reduceEqDiff, Nat.reduceLT, Nat.reduceBEq, ↓reduceIte, Int.reduceLE, Int.reduceLT, Int.reduceToNat, Int.reduceNeg, reduceCtorEq, Int.reduceEq, SF0, SF1, SF2, DCa0, DCa1, DDb0, DBc0, DBa0]
           exact fin_val ⟨by rw [Plan.cnt_first hk h1], rfl⟩
         · simp (disch := omega) only [SX0, SX1, SX2, SX3, SX4, SX5, SX6, SX7, SX8, SU0, SY0, SY1, Nat.reduceAdd, Nat.reduceMul, Nat.reduceSub, Nat.reduceLeDiff, Nat.reduceEqDiff, Nat.reduceLT, Nat.reduceBEq, ↓reduceIte, Int.reduceLE, Int.reduceLT, Int.reduceToNat, Int.reduceNeg, reduceCtorEq, Int.reduceEq, SF0, SF1, SF2, DCa0, DCa1, DDb0, DBc0, DBa0, hk]
           have hb := b.cnt_le (room - 1 - a.cnt (room - 1))
           refine acall_one (ih b (room - 1 - a.cnt (room - 1)) (by omega) (by omega)) (by simp [freeL, AV.free, Plan.free]) rfl ?_
           simp (disch := omega) only [SX0, SX1, SX2, SX3, SX4, SX5, SX6, SX7, SX8, SU0, SY0, SY1, Nat.reduceAdd, Nat.reduceMul, Nat.reduceSub, Nat.reduceLeDiff, Nat.reduceEqDiff, Nat.reduceLT, Nat.reduceBEq, ↓reduceIte, Int.reduceLE, Int.reduceLT, Int.reduceToNat, Int.reduceNeg, reduceCtorEq, Int.reduceEq, SF0, SF1, SF2, DCa0, DCa1, DDb0, DBc0, DBa0]
           refine br_dec (fun h2 => ?_) (fun h2 => ?_)
           · simp (disch := omega) only [SX0, SX1, SX2, SX3, SX4, SX5, SX6, SX7, SX8, SU0, SY0, SY1, Nat.reduceAdd, Nat.reduceMul, Nat.reduceSub, Nat.reduceLeDiff, Nat.reduceEqDiff, Nat.reduceLT, Nat.reduceBEq, ↓reduceIte, Int.reduceLE, Int.reduceLT, Int.reduceToNat, Int.reduceNeg, reduceCtorEq, Int.reduceEq, SF0, SF1, SF2, DCa0, DCa1, DDb0, DBc0, DBa0]
             exact fin_val ⟨by rw [Plan.cnt_second hk h1 h2], rfl⟩
           · simp (disch := omega) only [SX0, SX1, SX2, SX3, SX4, SX5, SX6, SX7, SX8, SU0, SY0, SY1, Nat.reduceAdd, Nat.reduceMul, Nat.reduceSub, Nat.reduceLeDiff, Nat.reduceEqDiff, Nat.reduceLT, Nat.reduceBEq, ↓reduceIte, Int.reduceLE, Int.reduceLT, Int.reduceToNat, Int.reduceNeg, reduceCtorEq, Int.reduceEq, SF0, SF1, SF2, DCa0, DCa1, DDb0, DBc0, DBa0]
             exact fin_val ⟨by rw [Plan.cnt_both hg hk h1 h2], rfl⟩)

theorem Plan.cnt_size (p : Plan) : p.cnt 255 = p.size := by
  unfold Plan.cnt Plan.size
  by_cases h : p.wf = true ∧ p.nodes ≤ 255
  · rw [if_pos h, if_pos ⟨h.1, by omega⟩]
  · rw [if_neg h, if_neg (fun hh => h ⟨hh.1, by omega⟩)]

theorem e_planSizeI : Enters Try.prog 108 := enters_of Try.func108 (by kernel_rfl) (by kernel_rfl)
theorem planSizeI_c (p : Plan) : ACalls Try.prog 108 [.agg p.cs] [] [] (fun r L => r = .val (.int .i64 p.size) ∧ L = []) := by
  refine acalls_tm T_tt Try.func108 rfl e_planSizeI 4 rfl [_, .any, .any, .any, .any] rfl (rv := [.tmp 2]) rfl (sx_sound (bl := []) T_tt _ _ _ ?_)
  simp (disch := omega) only [SX0, SX1, SX2, SX3, SX4, SX5, SX6, SX7, SX8, SU0, SY0, SY1, Nat.reduceAdd, Nat.reduceMul, Nat.reduceSub, Nat.reduceLeDiff, Nat.reduceEqDiff, Nat.reduceLT, Nat.reduceBEq, ↓reduceIte, Int.reduceLE, Int.reduceLT, Int.reduceToNat, Int.reduceNeg, reduceCtorEq, Int.reduceEq, SF0, SF1, SF2, DCa0, DCa1, DDb0, DBc0, DBa0]
  refine acall_one (countParts_n _ p 255 (Nat.le_refl _) (by omega)) (by simp [freeL, AV.free, Plan.free]) rfl ?_
  simp (disch := omega) only [SX0, SX1, SX2, SX3, SX4, SX5, SX6, SX7, SX8, SU0, SY0, SY1, Nat.reduceAdd, Nat.reduceMul, Nat.reduceSub, Nat.reduceLeDiff, Nat.reduceEqDiff, Nat.reduceLT, Nat.reduceBEq, ↓reduceIte, Int.reduceLE, Int.reduceLT, Int.reduceToNat, Int.reduceNeg, reduceCtorEq, Int.reduceEq, SF0, SF1, SF2, DCa0, DCa1, DDb0, DBc0, DBa0]
  exact fin_val ⟨by rw [Plan.cnt_size], rfl⟩

theorem Plan.fits_split {k : Work} {p x y : Plan} {b : Box} (hc : p.cut) (hk : p.ks = [x, y]) (h1 : 1 ≤ p.at_) (h2 : p.op = 2 → p.at_ ≤ b.W - 1) (h3 : p.op ≠ 2 → p.at_ ≤ b.H - 1) :
    p.fits k b.W b.H = (x.fits k (p.split b).1.W (p.split b).1.H && y.fits k (p.split b).2.W (p.split b).2.H) := by
  rcases hc with h | h
  · rw [Plan.fits_down k p x y _ _ h hk]
    simp only [Plan.split, if_pos h, h1, h2 h, decide_true, Bool.true_and]
  · have hn : ¬ p.op = 2 := by omega
    rw [Plan.fits_across k p x y _ _ h hk]
    simp only [Plan.split, if_neg hn, h1, h3 hn, decide_true, Bool.true_and]

theorem e_planFits : Enters Try.prog 109 := enters_of Try.func109 (by kernel_rfl) (by kernel_rfl)
set_option maxHeartbeats 4000000 in
theorem planFits_n (k : Work) : ∀ (n : Nat) (p : Plan) (b : Box), p.nodes ≤ n → p.wf = true → b.sane →
    ACalls Try.prog 109 [.agg k.cs, .agg p.cs, .agg b.cs] [] [] (fun r L => r = .val (.bool (p.fits k b.W b.H)) ∧ L = []) := by
  intro n
  induction n with
  | zero => intro p b h; have := p.nodes_pos; omega
  | succ n ih =>
  intro p b hn hw hb
  refine acalls_tm T_tt Try.func109 rfl e_planFits 66 rfl (W8 _ _ _ .any .any .any .any .any (W8 .any .any .any .any .any .any .any .any (W8 .any .any .any .any .any .any .any .any (W8 .any .any .any .any .any .any .any .any (W8 .any .any .any .any .any .any .any .any (W8 .any .any .any .any .any .any .any .any (W8 .any .any .any .any .any .any .any .any (W8 .any .any .any .any .any .any .any .any [.any, .any, .any, .any, .any])))))))) rfl (rv := [.tmp 6]) rfl (sx_sound (bl := []) T_tt _ _ _ ?_)
  simp (disch := omega) only [SX0, SX1, SX2, SX3, SX4, SX5, SX6, SX7, SX8, SU0, SY0, SY1, Nat.reduceAdd, Nat.reduceMul, Nat.reduceSub, Nat.reduceLeDiff, Nat.reduceEqDiff, Nat.reduceLT, Nat.reduceBEq, ↓reduceIte, Int.reduceLE, Int.reduceLT, Int.reduceToNat, Int.reduceNeg, reduceCtorEq, Int.reduceEq, SF0, SF1, SF2, DCa0, DCa1, DDb0, DBc0, DBa0]
  refine br_dec (fun h => ?_) (fun h => ?_)
  · simp (disch := omega) only [SX0, SX1, SX2, SX3, SX4, SX5, SX6, SX7, SX8, SU0, SY0, SY1, Nat.reduceAdd, Nat.reduceMul, Nat.reduceSub, Nat.reduceLeDiff, Nat.reduceEqDiff, Nat.reduceLT, Nat.reduceBEq, ↓reduceIte, Int.reduceLE, Int.reduceLT, Int.reduceToNat, Int.reduceNeg, reduceCtorEq, Int.reduceEq, SF0, SF1, SF2, DCa0, DCa1, DDb0, DBc0, DBa0]
    refine acall_one (paneFillsI_c k p.pa p.tu b.W b.H) (by simp [freeL, AV.free, Work.free]) rfl ?_
    simp (disch := omega) only [SX0, SX1, SX2, SX3, SX4, SX5, SX6, SX7, SX8, SU0, SY0, SY1, Nat.reduceAdd, Nat.reduceMul, Nat.reduceSub, Nat.reduceLeDiff, Nat.reduceEqDiff, Nat.reduceLT, Nat.reduceBEq, ↓reduceIte, Int.reduceLE, Int.reduceLT, Int.reduceToNat, Int.reduceNeg, reduceCtorEq, Int.reduceEq, SF0, SF1, SF2, DCa0, DCa1, DDb0, DBc0, DBa0]
    exact fin_val ⟨by rw [Plan.fits_pane k p _ _ h], rfl⟩
  · repeat' first | with_reducible refine fin_val ⟨?_, rfl⟩ | with_reducible refine br_dec (fun hb => ?_) (fun hb => ?_) | with_reducible refine br_ndec (fun hb => ?_) (fun hb => ?_) | with_reducible refine br_bool (fun hb => ?_) (fun hb => ?_) | with_reducible refine pk_dec (fun hb => ?_) (fun hb => ?_) | with_reducible refine pk_ndec (fun hb => ?_) (fun hb => ?_) | with_reducible refine awp_drawA T_tt mixed (by decide +kernel) (by kernel_rfl) (by kernel_rfl) ?_ | simp (disch := omega) only [SX0, SX1, SX2, SX3, SX4, SX5, SX6, SX7, SX8, SU0, SY0, SY1, Nat.reduceAdd, Nat.reduceMul, Nat.reduceSub, Nat.reduceLeDiff, Nat.reduceEqDiff, Nat.reduceLT, Nat.reduceBEq, ↓reduceIte, Int.reduceLE, Int.reduceLT, Int.reduceToNat, Int.reduceNeg, reduceCtorEq, Int.reduceEq, SF0, SF1, SF2, DCa0, DCa1, DDb0, DBc0, DBa0]
    all_goals first
      | (have h2 : p.op = 2 := by assumption
         have hc : p.cut := .inl h2
         obtain ⟨x, y, hk, hx, hy, nx, ny⟩ := Plan.two hw hc
         rw [Plan.fits_down k p x y _ _ h2 hk]
         have e : (decide (1 ≤ p.at_) && decide (p.at_ ≤ b.W - 1)) = false := by simp; omega
         rw [e]; rfl)
      | (have h3 : p.op = 3 := by assumption
         have hc : p.cut := .inr h3
         obtain ⟨x, y, hk, hx, hy, nx, ny⟩ := Plan.two hw hc
         rw [Plan.fits_across k p x y _ _ h3 hk]
         have e : (decide (1 ≤ p.at_) && decide (p.at_ ≤ b.H - 1)) = false := by simp; omega
         rw [e]; rfl)
      | (rw [Plan.fits_else k p _ _ (by assumption) (by assumption) (by assumption)]; done)
      | (have hc : p.cut := by unfold Plan.cut; omega
         obtain ⟨x, y, hk, hx, hy, nx, ny⟩ := Plan.two hw hc
         obtain ⟨s1, s2⟩ := Plan.split_sane2 (p := p) (b := b) (by assumption) (by omega) (by omega) (by omega)
         have hbb : b.sane := by assumption
         have hbb' := hbb
         unfold Box.sane at hbb'
         refine acall_one (splitBoxI_c p b (by omega)) (by simp [freeL, AV.free, Plan.free, Box.free]) (by simp [freeL, AV.free, Box.free]) ?_
         simp (disch := omega) only [SX0, SX1, SX2, SX3, SX4, SX5, SX6, SX7, SX8, SU0, SY0, SY1, Nat.reduceAdd, Nat.reduceMul, Nat.reduceSub, Nat.reduceLeDiff, Nat.reduceEqDiff, Nat.reduceLT, Nat.reduceBEq, ↓reduceIte, Int.reduceLE, Int.reduceLT, Int.reduceToNat, Int.reduceNeg, reduceCtorEq, Int.reduceEq, SF0, SF1, SF2, DCa0, DCa1, DDb0, DBc0, DBa0]
         refine awp_drawA T_tt mixed (by decide +kernel) (by kernel_rfl) (by kernel_rfl) ?_
         simp (disch := omega) only [SX0, SX1, SX2, SX3, SX4, SX5, SX6, SX7, SX8, SU0, SY0, SY1, Nat.reduceAdd, Nat.reduceMul, Nat.reduceSub, Nat.reduceLeDiff, Nat.reduceEqDiff, Nat.reduceLT, Nat.reduceBEq, ↓reduceIte, Int.reduceLE, Int.reduceLT, Int.reduceToNat, Int.reduceNeg, reduceCtorEq, Int.reduceEq, SF0, SF1, SF2, DCa0, DCa1, DDb0, DBc0, DBa0, hk]
         refine qc_one (ih x (p.split b).1 (by omega) hx s1) (by simp [freeL, AV.free, Plan.free, Box.free, Work.free]) ?_
         simp (disch := omega) only [SX0, SX1, SX2, SX3, SX4, SX5, SX6, SX7, SX8, SU0, SY0, SY1, Nat.reduceAdd, Nat.reduceMul, Nat.reduceSub, Nat.reduceLeDiff, Nat.reduceEqDiff, Nat.reduceLT, Nat.reduceBEq, ↓reduceIte, Int.reduceLE, Int.reduceLT, Int.reduceToNat, Int.reduceNeg, reduceCtorEq, Int.reduceEq, SF0, SF1, SF2, DCa0, DCa1, DDb0, DBc0, DBa0, hk]
         refine br_bool (fun f1 => ?_) (fun f1 => ?_)
         · simp (disch := omega) only [SX0, SX1, SX2, SX3, SX4, SX5, SX6, SX7, SX8, SU0, SY0, SY1, Nat.reduceAdd, Nat.reduceMul, Nat.reduceSub, Nat.reduceLeDiff, Nat.reduceEqDiff, Nat.reduceLT, Nat.reduceBEq, ↓reduceIte, Int.reduceLE, Int.reduceLT, Int.reduceToNat, Int.reduceNeg, reduceCtorEq, Int.reduceEq, SF0, SF1, SF2, DCa0, DCa1, DDb0, DBc0, DBa0, hk]
           refine qc_one (ih y (p.split b).2 (by omega) hy s2) (by simp [freeL, AV.free, Plan.free, Box.free, Work.free]) ?_
           simp (disch := omega) only [SX0, SX1, SX2, SX3, SX4, SX5, SX6, SX7, SX8, SU0, SY0, SY1, Nat.reduceAdd, Nat.reduceMul, Nat.reduceSub, Nat.reduceLeDiff, Nat.reduceEqDiff, Nat.reduceLT, Nat.reduceBEq, ↓reduceIte, Int.reduceLE, Int.reduceLT, Int.reduceToNat, Int.reduceNeg, reduceCtorEq, Int.reduceEq, SF0, SF1, SF2, DCa0, DCa1, DDb0, DBc0, DBa0]
           exact fin_val ⟨by rw [Plan.fits_split hc hk (by omega) (by omega) (by omega), f1]; rfl, rfl⟩
         · simp (disch := omega) only [SX0, SX1, SX2, SX3, SX4, SX5, SX6, SX7, SX8, SU0, SY0, SY1, Nat.reduceAdd, Nat.reduceMul, Nat.reduceSub, Nat.reduceLeDiff, Nat.reduceEqDiff, Nat.reduceLT, Nat.reduceBEq, ↓reduceIte, Int.reduceLE, Int.reduceLT, Int.reduceToNat, Int.reduceNeg, reduceCtorEq, Int.reduceEq, SF0, SF1, SF2, DCa0, DCa1, DDb0, DBc0, DBa0]
           exact fin_val ⟨by rw [Plan.fits_split hc hk (by omega) (by omega) (by omega), f1]; rfl, rfl⟩)
end Go.Pc
