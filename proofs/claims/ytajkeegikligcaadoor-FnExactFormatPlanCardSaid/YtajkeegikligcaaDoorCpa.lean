/- Texts of plans: the reference. -/
import Derived.Test.YtajkeegikligcaaDoorCe
import Derived.Lib.ItoaNum
set_option linter.unusedSimpArgs false
set_option linter.unusedVariables false
namespace Go.Pc
open Go Go.Proofs Go.Lib

def strB (l : List UInt8) : ByteArray := ⟨l.toArray⟩
theorem strB_size (l : List UInt8) : (strB l).size = l.length := by simp [strB, ByteArray.size]
theorem strB_app (l m : List UInt8) : strB l ++ strB m = strB (l ++ m) := by
  apply ByteArray.ext
  simp [strB]
theorem dec_len (n : Nat) : (decDigits n).length ≤ n + 1 := by
  induction n using Nat.strongRecOn with
  | _ n ih =>
    rw [decDigits]
    split
    · simp
    · have := ih (n / 10) (by omega)
      rw [List.length_append, List.length_singleton]
      omega
theorem digit_one : ∀ i : _root_.Fin 10, (strB [48, 49, 50, 51, 52, 53, 54, 55, 56, 57]).extract i.val (i.val + 1) = strB [UInt8.ofNat (48 + i.val)] := by decide +kernel

theorem qSlice_str {T : TypeId → Ty} {t : TypeId} (hk : (T t).kd = .str) {s : ByteArray} {a b : Nat} (hab : a ≤ b) (hb : b ≤ s.size) {K : AV → Prop} (h : K (.val (.string (s.extract a b)))) : qSlice T t (.val (.string s)) (some (.val (.int .i64 (a : Int)))) (some (.val (.int .i64 (b : Int)))) none K := by
  refine ⟨rfl, ?_⟩
  rw [hk]
  exact ⟨a, by simp [bnd], b, by simp [bnd], hab, hb, h⟩

theorem e_numberS : Enters Tryd.prog 44 := enters_of Tryd.func44 (by kernel_rfl) (by kernel_rfl)
set_option maxHeartbeats 1000000 in
theorem numberS_c : ∀ (n : Nat), n < 1000000 → ACalls Tryd.prog 44 [.val (.int .i64 n)] [] [] (fun r L => r = .val (.string (strB (decDigits n))) ∧ L = []) := by
  intro n
  induction n using Nat.strongRecOn with
  | _ n ih =>
  intro hn
  have hd : decDigits n = if n < 10 then [UInt8.ofNat (48 + n)] else decDigits (n / 10) ++ [UInt8.ofNat (48 + n % 10)] := by rw [decDigits]; split <;> simp_all
  rw [hd]
  refine acalls_tm T_tt Tryd.func44 rfl e_numberS 15 rfl (W8 _ .any .any .any .any .any .any .any (W8 .any .any .any .any .any .any .any .any [])) rfl (rv := [.tmp 2]) rfl (sx_sound (bl := []) T_tt _ _ _ ?_)
  simp (disch := omega) only [SX0, SX1, SX2, SX3, SX4, SX5, SX6, SX7, SX8, SU0, SY0, SY1, Nat.reduceAdd, Nat.reduceMul, Nat.reduceSub, Nat.reduceLeDiff, Nat.reduceEqDiff, Nat.reduceLT, Nat.reduceBEq, ↓reduceIte, Int.reduceLE, Int.reduceLT, Int.reduceToNat, Int.reduceNeg, reduceCtorEq, Int.reduceEq, SF0, SF1, SF2, DCe0, DCe1, DCe2, DDb0, DBc0, DBc1]
  refine br_dec (fun h1 => ?_) (fun h1 => ?_)
  · have d1 := digit_one ⟨n, by omega⟩
    rw [if_pos (by omega)]
    simp (disch := omega) only [SX0, SX1, SX2, SX3, SX4, SX5, SX6, SX7, SX8, SU0, SY0, SY1, Nat.reduceAdd, Nat.reduceMul, Nat.reduceSub, Nat.reduceLeDiff, Nat.reduceEqDiff, Nat.reduceLT, Nat.reduceBEq, ↓reduceIte, Int.reduceLE, Int.reduceLT, Int.reduceToNat, Int.reduceNeg, reduceCtorEq, Int.reduceEq, SF0, SF1, SF2, DCe0, DCe1, DCe2, DDb0, DBc0, DBc1]
    have en : ((n : Int) + 1) = ((n + 1 : Nat) : Int) := by omega
    rw [en]
    refine qSlice_str (by rw [T_9]) (by omega) (by show n + 1 ≤ 10; omega) ?_
    rw [show (⟨#[48, 49, 50, 51, 52, 53, 54, 55, 56, 57]⟩ : ByteArray) = strB [48, 49, 50, 51, 52, 53, 54, 55, 56, 57] from rfl, d1]
    simp (disch := omega) only [SX0, SX1, SX2, SX3, SX4, SX5, SX6, SX7, SX8, SU0, SY0, SY1, Nat.reduceAdd, Nat.reduceMul, Nat.reduceSub, Nat.reduceLeDiff, Nat.reduceEqDiff, Nat.reduceLT, Nat.reduceBEq, ↓reduceIte, Int.reduceLE, Int.reduceLT, Int.reduceToNat, Int.reduceNeg, reduceCtorEq, Int.reduceEq, SF0, SF1, SF2, DCe0, DCe1, DCe2, DDb0, DBc0, DBc1]
    exact fin_val ⟨rfl, rfl⟩
  · rw [if_neg (by omega)]
    have e1 : Int.tdiv (n : Int) 10 = ((n / 10 : Nat) : Int) := rfl
    have e2 : Int.tmod (n : Int) 10 = ((n % 10 : Nat) : Int) := rfl
    have l1 := dec_len (n / 10)
    have l2 := dec_len (n % 10)
    have hd2 : decDigits (n % 10) = [UInt8.ofNat (48 + n % 10)] := by rw [decDigits, dif_pos (by omega)]
    simp (disch := omega) only [SX0, SX1, SX2, SX3, SX4, SX5, SX6, SX7, SX8, SU0, SY0, SY1, Nat.reduceAdd, Nat.reduceMul, Nat.reduceSub, Nat.reduceLeDiff, Nat.reduceEqDiff, Nat.reduceLT, Nat.reduceBEq, ↓reduceIte, Int.reduceLE, Int.reduceLT, Int.reduceToNat, Int.reduceNeg, reduceCtorEq, Int.reduceEq, SF0, SF1, SF2, DCe0, DCe1, DCe2, DDb0, DBc0, DBc1, e1]
    refine acall_one (ih (n / 10) (by omega) (by omega)) rfl rfl ?_
    simp (disch := omega) only [SX0, SX1, SX2, SX3, SX4, SX5, SX6, SX7, SX8, SU0, SY0, SY1, Nat.reduceAdd, Nat.reduceMul, Nat.reduceSub, Nat.reduceLeDiff, Nat.reduceEqDiff, Nat.reduceLT, Nat.reduceBEq, ↓reduceIte, Int.reduceLE, Int.reduceLT, Int.reduceToNat, Int.reduceNeg, reduceCtorEq, Int.reduceEq, SF0, SF1, SF2, DCe0, DCe1, DCe2, DDb0, DBc0, DBc1, e2]
    refine acall_one (ih (n % 10) (by omega) (by omega)) rfl rfl ?_
    refine req (by rw [strB_size, strB_size]; omega) ?_
    simp (disch := omega) only [SX0, SX1, SX2, SX3, SX4, SX5, SX6, SX7, SX8, SU0, SY0, SY1, Nat.reduceAdd, Nat.reduceMul, Nat.reduceSub, Nat.reduceLeDiff, Nat.reduceEqDiff, Nat.reduceLT, Nat.reduceBEq, ↓reduceIte, Int.reduceLE, Int.reduceLT, Int.reduceToNat, Int.reduceNeg, reduceCtorEq, Int.reduceEq, SF0, SF1, SF2, DCe0, DCe1, DCe2, DDb0, DBc0, DBc1, strB_app, hd2]
    exact fin_val ⟨rfl, rfl⟩

/-! ### Numbers that have texts -/

mutual
def Plan.cb : Plan → Bool
  | .mk _ a p _ ks => decide (0 ≤ a ∧ a ≤ 200) && decide (0 ≤ p ∧ p ≤ 24) && cbL ks
def cbL : List Plan → Bool
  | [] => true
  | q :: l => q.cb && cbL l
end
theorem cbL_all : ∀ l : List Plan, cbL l = true ↔ ∀ q ∈ l, q.cb = true
  | [] => by simp [cbL]
  | q :: l => by simp [cbL, cbL_all l]
theorem Plan.cb_iff (p : Plan) : p.cb = true ↔ (0 ≤ p.at_ ∧ p.at_ ≤ 200) ∧ (0 ≤ p.pa ∧ p.pa ≤ 24) ∧ ∀ q ∈ p.ks, q.cb = true := by
  cases p
  simp [Plan.cb, cbL_all, Plan.at_, Plan.pa, Plan.ks, and_assoc]

theorem wf_len {p : Plan} (h : p.wf = true) : p.ks.length ≤ 2 := by
  have := ((Plan.wf_iff p).1 h).1
  unfold Plan.good at this
  split at this <;> omega

theorem e_numbersFit : Enters Tryd.prog 26 := enters_of Tryd.func26 (by kernel_rfl) (by kernel_rfl)
set_option maxHeartbeats 2000000 in
theorem numbersFit_n : ∀ (n : Nat) (p : Plan), p.nodes ≤ n → p.wf = true → ACalls Tryd.prog 26 [.agg p.cs] [] [] (fun r L => r = .val (.bool p.cb) ∧ L = []) := by
  intro n
  induction n with
  | zero => intro p h; have := p.nodes_pos; omega
  | succ n ih =>
  intro p hn hw
  have ih : ∀ q ∈ p.ks, ACalls Tryd.prog 26 [.agg q.cs] [] [] (fun r L => r = .val (.bool q.cb) ∧ L = []) := fun q hq => ih q (by have := Plan.nodes_kid hq; omega) (((Plan.wf_iff p).1 hw).2 q hq)
  have hk2 := wf_len hw
  have hcbx := Plan.cb_iff p
  have no : ¬ ((0 ≤ p.at_ ∧ p.at_ ≤ 200) ∧ (0 ≤ p.pa ∧ p.pa ≤ 24)) → p.cb = false := fun h => by
    cases hc : p.cb
    · rfl
    · exact absurd ⟨(hcbx.1 hc).1, (hcbx.1 hc).2.1⟩ h
  refine acalls_tm T_tt Tryd.func26 rfl e_numbersFit 33 rfl (W8 _ .any .any .any .any .any .any .any (W8 .any .any .any .any .any .any .any .any (W8 .any .any .any .any .any .any .any .any (W8 .any .any .any .any .any .any .any .any [.any, .any])))) rfl (rv := [.tmp 2]) rfl (sx_sound (bl := []) T_tt _ _ _ ?_)
  simp (disch := omega) only [SX0, SX1, SX2, SX3, SX4, SX5, SX6, SX7, SX8, SU0, SY0, SY1, Nat.reduceAdd, Nat.reduceMul, Nat.reduceSub, Nat.reduceLeDiff, Nat.reduceEqDiff, Nat.reduceLT, Nat.reduceBEq, ↓reduceIte, Int.reduceLE, Int.reduceLT, Int.reduceToNat, Int.reduceNeg, reduceCtorEq, Int.reduceEq, SF0, SF1, SF2, DCe0, DCe1, DCe2, DDb0, DBc0, DBc1, Plan.len, Plan.take, Plan.g0, Plan.g1, Plan.g2, Plan.g3, Plan.g4, Plan.one, Plan.pure]
  repeat' first | with_reducible refine fin_val ⟨?_, rfl⟩ | with_reducible refine br_dec (fun hb => ?_) (fun hb => ?_) | with_reducible refine br_ndec (fun hb => ?_) (fun hb => ?_) | with_reducible refine br_bool (fun hb => ?_) (fun hb => ?_) | with_reducible refine pk_dec (fun hb => ?_) (fun hb => ?_) | with_reducible refine pk_ndec (fun hb => ?_) (fun hb => ?_) | with_reducible refine awp_drawA T_tt mixed (by decide +kernel) (by kernel_rfl) (by kernel_rfl) ?_ | simp (disch := omega) only [SX0, SX1, SX2, SX3, SX4, SX5, SX6, SX7, SX8, SU0, SY0, SY1, Nat.reduceAdd, Nat.reduceMul, Nat.reduceSub, Nat.reduceLeDiff, Nat.reduceEqDiff, Nat.reduceLT, Nat.reduceBEq, ↓reduceIte, Int.reduceLE, Int.reduceLT, Int.reduceToNat, Int.reduceNeg, reduceCtorEq, Int.reduceEq, SF0, SF1, SF2, DCe0, DCe1, DCe2, DDb0, DBc0, DBc1, Plan.len, Plan.take, Plan.g0, Plan.g1, Plan.g2, Plan.g3, Plan.g4, Plan.one, Plan.pure]
  all_goals first
    | (rw [no (by omega)]; done)
    | skip
  all_goals
    with_reducible refine awp_loop_h (G := Nat) 4 30 (fun i => [(24, .sl (p.ks.map Plan.cs)), (25, .val (.int .i64 p.ks.length)), (26, .val (.int .i64 i))]) (fun _ => [.cells p.cs]) (fun i => i ≤ p.ks.length ∧ ∀ q ∈ p.ks.take i, q.cb = true) (fun i => p.ks.length - i) 0 ⟨Nat.zero_le _, by simp⟩ ?_ (fun i hi => sx_sound (bl := []) T_tt _ _ _ ?_)
    · simp (disch := omega) only [SX0, SX1, SX2, SX3, SX4, SX5, SX6, SX7, SX8, SU0, SY0, SY1, Nat.reduceAdd, Nat.reduceMul, Nat.reduceSub, Nat.reduceLeDiff, Nat.reduceEqDiff, Nat.reduceLT, Nat.reduceBEq, ↓reduceIte, Int.reduceLE, Int.reduceLT, Int.reduceToNat, Int.reduceNeg, reduceCtorEq, Int.reduceEq, SF0, SF1, SF2, DCe0, DCe1, DCe2, DDb0, DBc0, DBc1]
      (refine wk_le ?_ ?_ ?_; (focus (simp [W8, leTm, leAV, AV.under, underL, Plan.under]; done)); (focus (simp [leL, OB.under, underL, AV.under, Plan.under]; done)); (focus (simp; done)))
    simp (disch := omega) only [SX0, SX1, SX2, SX3, SX4, SX5, SX6, SX7, SX8, SU0, SY0, SY1, Nat.reduceAdd, Nat.reduceMul, Nat.reduceSub, Nat.reduceLeDiff, Nat.reduceEqDiff, Nat.reduceLT, Nat.reduceBEq, ↓reduceIte, Int.reduceLE, Int.reduceLT, Int.reduceToNat, Int.reduceNeg, reduceCtorEq, Int.reduceEq, SF0, SF1, SF2, DCe0, DCe1, DCe2, DDb0, DBc0, DBc1, Plan.len, Plan.take, Plan.g0, Plan.g1, Plan.g2, Plan.g3, Plan.g4, Plan.one, Plan.pure]
    refine br_dec (fun h => ?_) (fun h => ?_)
    · obtain ⟨q, hq⟩ := get_lt (l := p.ks) (i := i) (by omega)
      have hqm := List.mem_of_getElem? hq
      simp (disch := omega) only [SX0, SX1, SX2, SX3, SX4, SX5, SX6, SX7, SX8, SU0, SY0, SY1, Nat.reduceAdd, Nat.reduceMul, Nat.reduceSub, Nat.reduceLeDiff, Nat.reduceEqDiff, Nat.reduceLT, Nat.reduceBEq, ↓reduceIte, Int.reduceLE, Int.reduceLT, Int.reduceToNat, Int.reduceNeg, reduceCtorEq, Int.reduceEq, SF0, SF1, SF2, DCe0, DCe1, DCe2, DDb0, DBc0, DBc1, hq, Plan.len, Plan.take, Plan.g0, Plan.g1, Plan.g2, Plan.g3, Plan.g4, Plan.one, Plan.pure]
      refine acall_one (ih q hqm) (by simp [freeL, AV.free, Plan.free]) rfl ?_
      cases hqc : q.cb
      · simp (disch := omega) only [SX0, SX1, SX2, SX3, SX4, SX5, SX6, SX7, SX8, SU0, SY0, SY1, Nat.reduceAdd, Nat.reduceMul, Nat.reduceSub, Nat.reduceLeDiff, Nat.reduceEqDiff, Nat.reduceLT, Nat.reduceBEq, ↓reduceIte, Int.reduceLE, Int.reduceLT, Int.reduceToNat, Int.reduceNeg, reduceCtorEq, Int.reduceEq, SF0, SF1, SF2, DCe0, DCe1, DCe2, DDb0, DBc0, DBc1]
        have : p.cb = false := by
          cases hc : p.cb
          · rfl
          · rw [(hcbx.1 hc).2.2 q hqm] at hqc; cases hqc
        exact fin_val ⟨by rw [this], rfl⟩
      · simp (disch := omega) only [SX0, SX1, SX2, SX3, SX4, SX5, SX6, SX7, SX8, SU0, SY0, SY1, Nat.reduceAdd, Nat.reduceMul, Nat.reduceSub, Nat.reduceLeDiff, Nat.reduceEqDiff, Nat.reduceLT, Nat.reduceBEq, ↓reduceIte, Int.reduceLE, Int.reduceLT, Int.reduceToNat, Int.reduceNeg, reduceCtorEq, Int.reduceEq, SF0, SF1, SF2, DCe0, DCe1, DCe2, DDb0, DBc0, DBc1]
        refine ⟨i + 1, ⟨by omega, take_next hq hi.2 hqc⟩, by omega, ?_⟩
        (refine wk_le ?_ ?_ ?_; (focus (simp [W8, leTm, leAV, AV.under, underL, Plan.under]; done)); (focus (simp [leL, OB.under, underL, AV.under, Plan.under]; done)); (focus (simp; done)))
    · simp (disch := omega) only [SX0, SX1, SX2, SX3, SX4, SX5, SX6, SX7, SX8, SU0, SY0, SY1, Nat.reduceAdd, Nat.reduceMul, Nat.reduceSub, Nat.reduceLeDiff, Nat.reduceEqDiff, Nat.reduceLT, Nat.reduceBEq, ↓reduceIte, Int.reduceLE, Int.reduceLT, Int.reduceToNat, Int.reduceNeg, reduceCtorEq, Int.reduceEq, SF0, SF1, SF2, DCe0, DCe1, DCe2, DDb0, DBc0, DBc1]
      have hs6 := take_all (by omega) hi.2
      refine fin_val ⟨?_, rfl⟩
      rw [hcbx.2 ⟨by omega, by omega, hs6⟩]

theorem e_countable : Enters Tryd.prog 22 := enters_of Tryd.func22 (by kernel_rfl) (by kernel_rfl)
set_option maxHeartbeats 2000000 in
theorem countable_n : ∀ (n : Nat) (p : Plan), p.nodes ≤ n → p.wf = true → ACalls Tryd.prog 22 [.agg p.cs] [] [] (fun r L => r = .val (.bool p.cb) ∧ L = []) := by
  intro n
  induction n with
  | zero => intro p h; have := p.nodes_pos; omega
  | succ n ih =>
  intro p hn hw
  have ih : ∀ q ∈ p.ks, ACalls Tryd.prog 22 [.agg q.cs] [] [] (fun r L => r = .val (.bool q.cb) ∧ L = []) := fun q hq => ih q (by have := Plan.nodes_kid hq; omega) (((Plan.wf_iff p).1 hw).2 q hq)
  have hk2 := wf_len hw
  have hcbx := Plan.cb_iff p
  refine acalls_tm T_tt Tryd.func22 rfl e_countable 25 rfl (W8 _ .any .any .any .any .any .any .any (W8 .any .any .any .any .any .any .any .any (W8 .any .any .any .any .any .any .any .any [.any, .any]))) rfl (rv := [.tmp 2]) rfl (sx_sound (bl := []) T_tt _ _ _ ?_)
  simp (disch := omega) only [SX0, SX1, SX2, SX3, SX4, SX5, SX6, SX7, SX8, SU0, SY0, SY1, Nat.reduceAdd, Nat.reduceMul, Nat.reduceSub, Nat.reduceLeDiff, Nat.reduceEqDiff, Nat.reduceLT, Nat.reduceBEq, ↓reduceIte, Int.reduceLE, Int.reduceLT, Int.reduceToNat, Int.reduceNeg, reduceCtorEq, Int.reduceEq, SF0, SF1, SF2, DCe0, DCe1, DCe2, DDb0, DBc0, DBc1, Plan.len, Plan.take, Plan.g0, Plan.g1, Plan.g2, Plan.g3, Plan.g4, Plan.one, Plan.pure]
  with_reducible refine awp_loop_h (G := Nat) 4 22 (fun i => [(3, .val (.int .i64 i))]) (fun _ => [.cells p.cs]) (fun i => i ≤ p.ks.length ∧ ∀ q ∈ p.ks.take i, q.cb = true) (fun i => p.ks.length - i) 0 ⟨Nat.zero_le _, by simp⟩ ?_ (fun i hi => sx_sound (bl := []) T_tt _ _ _ ?_)
  · simp (disch := omega) only [SX0, SX1, SX2, SX3, SX4, SX5, SX6, SX7, SX8, SU0, SY0, SY1, Nat.reduceAdd, Nat.reduceMul, Nat.reduceSub, Nat.reduceLeDiff, Nat.reduceEqDiff, Nat.reduceLT, Nat.reduceBEq, ↓reduceIte, Int.reduceLE, Int.reduceLT, Int.reduceToNat, Int.reduceNeg, reduceCtorEq, Int.reduceEq, SF0, SF1, SF2, DCe0, DCe1, DCe2, DDb0, DBc0, DBc1]
    (refine wk_le ?_ ?_ ?_; (focus (simp [W8, leTm, leAV, AV.under, underL, Plan.under]; done)); (focus (simp [leL, OB.under, underL, AV.under, Plan.under]; done)); (focus (simp; done)))
  simp (disch := omega) only [SX0, SX1, SX2, SX3, SX4, SX5, SX6, SX7, SX8, SU0, SY0, SY1, Nat.reduceAdd, Nat.reduceMul, Nat.reduceSub, Nat.reduceLeDiff, Nat.reduceEqDiff, Nat.reduceLT, Nat.reduceBEq, ↓reduceIte, Int.reduceLE, Int.reduceLT, Int.reduceToNat, Int.reduceNeg, reduceCtorEq, Int.reduceEq, SF0, SF1, SF2, DCe0, DCe1, DCe2, DDb0, DBc0, DBc1, Plan.len, Plan.take, Plan.g0, Plan.g1, Plan.g2, Plan.g3, Plan.g4, Plan.one, Plan.pure]
  refine br_dec (fun h => ?_) (fun h => ?_)
  · obtain ⟨q, hq⟩ := get_lt (l := p.ks) (i := i) (by omega)
    have hqm := List.mem_of_getElem? hq
    simp (disch := omega) only [SX0, SX1, SX2, SX3, SX4, SX5, SX6, SX7, SX8, SU0, SY0, SY1, Nat.reduceAdd, Nat.reduceMul, Nat.reduceSub, Nat.reduceLeDiff, Nat.reduceEqDiff, Nat.reduceLT, Nat.reduceBEq, ↓reduceIte, Int.reduceLE, Int.reduceLT, Int.reduceToNat, Int.reduceNeg, reduceCtorEq, Int.reduceEq, SF0, SF1, SF2, DCe0, DCe1, DCe2, DDb0, DBc0, DBc1, hq, Plan.len, Plan.take, Plan.g0, Plan.g1, Plan.g2, Plan.g3, Plan.g4, Plan.one, Plan.pure]
    refine acall_one (ih q hqm) (by simp [freeL, AV.free, Plan.free]) rfl ?_
    cases hqc : q.cb
    · simp (disch := omega) only [SX0, SX1, SX2, SX3, SX4, SX5, SX6, SX7, SX8, SU0, SY0, SY1, Nat.reduceAdd, Nat.reduceMul, Nat.reduceSub, Nat.reduceLeDiff, Nat.reduceEqDiff, Nat.reduceLT, Nat.reduceBEq, ↓reduceIte, Int.reduceLE, Int.reduceLT, Int.reduceToNat, Int.reduceNeg, reduceCtorEq, Int.reduceEq, SF0, SF1, SF2, DCe0, DCe1, DCe2, DDb0, DBc0, DBc1]
      have : p.cb = false := by
        cases hc : p.cb
        · rfl
        · rw [(hcbx.1 hc).2.2 q hqm] at hqc; cases hqc
      exact fin_val ⟨by rw [this], rfl⟩
    · simp (disch := omega) only [SX0, SX1, SX2, SX3, SX4, SX5, SX6, SX7, SX8, SU0, SY0, SY1, Nat.reduceAdd, Nat.reduceMul, Nat.reduceSub, Nat.reduceLeDiff, Nat.reduceEqDiff, Nat.reduceLT, Nat.reduceBEq, ↓reduceIte, Int.reduceLE, Int.reduceLT, Int.reduceToNat, Int.reduceNeg, reduceCtorEq, Int.reduceEq, SF0, SF1, SF2, DCe0, DCe1, DCe2, DDb0, DBc0, DBc1]
      refine ⟨i + 1, ⟨by omega, take_next hq hi.2 hqc⟩, by omega, ?_⟩
      (refine wk_le ?_ ?_ ?_; (focus (simp [W8, leTm, leAV, AV.under, underL, Plan.under]; done)); (focus (simp [leL, OB.under, underL, AV.under, Plan.under]; done)); (focus (simp; done)))
  · simp (disch := omega) only [SX0, SX1, SX2, SX3, SX4, SX5, SX6, SX7, SX8, SU0, SY0, SY1, Nat.reduceAdd, Nat.reduceMul, Nat.reduceSub, Nat.reduceLeDiff, Nat.reduceEqDiff, Nat.reduceLT, Nat.reduceBEq, ↓reduceIte, Int.reduceLE, Int.reduceLT, Int.reduceToNat, Int.reduceNeg, reduceCtorEq, Int.reduceEq, SF0, SF1, SF2, DCe0, DCe1, DCe2, DDb0, DBc0, DBc1, Plan.len, Plan.take, Plan.g0, Plan.g1, Plan.g2, Plan.g3, Plan.g4, Plan.one, Plan.pure]
    have hs6 := take_all (by omega) hi.2
    refine acall_one (inRange_c _ _ _) rfl rfl ?_
    by_cases h1 : 0 ≤ p.at_ ∧ p.at_ ≤ 200
    · simp (disch := omega) only [SX0, SX1, SX2, SX3, SX4, SX5, SX6, SX7, SX8, SU0, SY0, SY1, Nat.reduceAdd, Nat.reduceMul, Nat.reduceSub, Nat.reduceLeDiff, Nat.reduceEqDiff, Nat.reduceLT, Nat.reduceBEq, ↓reduceIte, Int.reduceLE, Int.reduceLT, Int.reduceToNat, Int.reduceNeg, reduceCtorEq, Int.reduceEq, SF0, SF1, SF2, DCe0, DCe1, DCe2, DDb0, DBc0, DBc1, h1, Plan.len, Plan.take, Plan.g0, Plan.g1, Plan.g2, Plan.g3, Plan.g4, Plan.one, Plan.pure, decide_true, and_self]
      refine acall_one (inRange_c _ _ _) rfl rfl ?_
      simp (disch := omega) only [SX0, SX1, SX2, SX3, SX4, SX5, SX6, SX7, SX8, SU0, SY0, SY1, Nat.reduceAdd, Nat.reduceMul, Nat.reduceSub, Nat.reduceLeDiff, Nat.reduceEqDiff, Nat.reduceLT, Nat.reduceBEq, ↓reduceIte, Int.reduceLE, Int.reduceLT, Int.reduceToNat, Int.reduceNeg, reduceCtorEq, Int.reduceEq, SF0, SF1, SF2, DCe0, DCe1, DCe2, DDb0, DBc0, DBc1]
      refine fin_val ⟨?_, rfl⟩
      congr 2
      rw [Bool.eq_iff_iff, decide_eq_true_eq, hcbx]
      exact ⟨fun h => ⟨h1, h, hs6⟩, fun h => h.2.1⟩
    · have hd : decide (0 ≤ p.at_ ∧ p.at_ ≤ 200) = false := decide_eq_false h1
      simp (disch := omega) only [SX0, SX1, SX2, SX3, SX4, SX5, SX6, SX7, SX8, SU0, SY0, SY1, Nat.reduceAdd, Nat.reduceMul, Nat.reduceSub, Nat.reduceLeDiff, Nat.reduceEqDiff, Nat.reduceLT, Nat.reduceBEq, ↓reduceIte, Int.reduceLE, Int.reduceLT, Int.reduceToNat, Int.reduceNeg, reduceCtorEq, Int.reduceEq, SF0, SF1, SF2, DCe0, DCe1, DCe2, DDb0, DBc0, DBc1, hd, Plan.len, Plan.take, Plan.g0, Plan.g1, Plan.g2, Plan.g3, Plan.g4, Plan.one, Plan.pure]
      have : p.cb = false := by
        cases hc : p.cb
        · rfl
        · exact absurd (hcbx.1 hc).1 h1
      exact fin_val ⟨by rw [this], rfl⟩

/-! ### The text -/

def kidsT : List (List UInt8) → List UInt8
  | [a, b] => a ++ 44 :: (b ++ [41])
  | _ => []
mutual
def Plan.txt : Plan → List UInt8
  | .mk o a p t ks => if o = 0 then [119] else if o = 1 then (if t then 116 else 112) :: decDigits p.toNat else (if o = 2 then 100 else 97) :: (decDigits a.toNat ++ 40 :: kidsT (txtL ks))
def txtL : List Plan → List (List UInt8)
  | [] => []
  | q :: l => q.txt :: txtL l
end
theorem txtL_map (l : List Plan) : txtL l = l.map Plan.txt := by
  induction l with
  | nil => simp [txtL]
  | cons q l ih => simp [txtL, ih]
theorem Plan.txt_eq (p : Plan) : p.txt = if p.op = 0 then [119] else if p.op = 1 then (if p.tu then 116 else 112) :: decDigits p.pa.toNat else (if p.op = 2 then 100 else 97) :: (decDigits p.at_.toNat ++ 40 :: kidsT (p.ks.map Plan.txt)) := by
  cases p
  rw [Plan.txt, txtL_map]
  rfl

theorem wf_op {p : Plan} (h : p.wf = true) : (p.op = 0 ∨ p.op = 1 ∨ p.op = 2 ∨ p.op = 3) ∧ (¬ p.cut → p.ks = []) := by
  have := ((Plan.wf_iff p).1 h).1
  unfold Plan.good at this
  split at this
  · rename_i hc
    unfold Plan.cut at hc
    exact ⟨by omega, fun h => absurd hc h⟩
  · exact ⟨by omega, fun _ => List.length_eq_zero_iff.1 this.1⟩
theorem txt_len : ∀ (n : Nat) (p : Plan), p.nodes ≤ n → p.wf = true → p.cb = true → p.txt.length ≤ 300 * p.nodes := by
  intro n
  induction n with
  | zero => intro p h; have := p.nodes_pos; omega
  | succ n ih =>
  intro p hn hw hc
  obtain ⟨h1, h2, h3⟩ := (Plan.cb_iff p).1 hc
  have l1 := dec_len p.pa.toNat
  have l2 := dec_len p.at_.toNat
  have hp := p.nodes_pos
  rw [Plan.txt_eq]
  split
  · simp; omega
  split
  · simp; omega
  · rename_i g0 g1
    have hcut : p.cut := by
      have := (wf_op hw).1
      unfold Plan.cut; omega
    obtain ⟨x, y, hk, hx, hy, nx, ny⟩ := Plan.two hw hcut
    have hne := p.nodes_eq
    rw [hk] at hne
    simp only [Plan.nodesL] at hne
    have i1 := ih x (by omega) hx (h3 x (by rw [hk]; simp))
    have i2 := ih y (by omega) hy (h3 y (by rw [hk]; simp))
    rw [hk]
    simp [kidsT]
    omega

theorem e_showPlan : Enters Tryd.prog 23 := enters_of Tryd.func23 (by kernel_rfl) (by kernel_rfl)
set_option maxRecDepth 8000 in
set_option maxHeartbeats 4000000 in
theorem showPlan_n : ∀ (n : Nat) (p : Plan), p.nodes ≤ n → p.nodes ≤ 255 → p.wf = true → p.cb = true → ACalls Tryd.prog 23 [.agg p.cs] [] [] (fun r L => r = .val (.string (strB p.txt)) ∧ L = []) := by
  intro n
  induction n with
  | zero => intro p h; have := p.nodes_pos; omega
  | succ n ih =>
  intro p hn hn2 hw hc
  obtain ⟨b1, b2, b3⟩ := (Plan.cb_iff p).1 hc
  obtain ⟨ho, hks⟩ := wf_op hw
  have hte := p.txt_eq
  have hN1 := numberS_c p.pa.toNat (by omega)
  have hN2 := numberS_c p.at_.toNat (by omega)
  rw [show ((p.pa.toNat : Nat) : Int) = p.pa by omega] at hN1
  rw [show ((p.at_.toNat : Nat) : Int) = p.at_ by omega] at hN2
  have l1 := dec_len p.pa.toNat
  have l2 := dec_len p.at_.toNat
  have c100 : (⟨#[100]⟩ : ByteArray) = strB [100] := rfl
  have c97 : (⟨#[97]⟩ : ByteArray) = strB [97] := rfl
  have c40 : (⟨#[40]⟩ : ByteArray) = strB [40] := rfl
  have c44 : (⟨#[44]⟩ : ByteArray) = strB [44] := rfl
  have c41 : (⟨#[41]⟩ : ByteArray) = strB [41] := rfl
  have c119 : (⟨#[119]⟩ : ByteArray) = strB [119] := rfl
  have c116 : (⟨#[116]⟩ : ByteArray) = strB [116] := rfl
  have c112 : (⟨#[112]⟩ : ByteArray) = strB [112] := rfl
  by_cases h2 : p.op = 2 ∨ p.op = 3
  · obtain ⟨x, y, hk, hx, hy, nx, ny⟩ := Plan.two hw h2
    have bx := b3 x (by rw [hk]; simp)
    have bY := b3 y (by rw [hk]; simp)
    have ix := ih x (by omega) (by omega) hx bx
    have iy := ih y (by omega) (by omega) hy bY
    have tx := txt_len _ x (Nat.le_refl _) hx bx
    have ty := txt_len _ y (Nat.le_refl _) hy bY
    rw [if_neg (by omega), if_neg (by omega), hk] at hte
    simp only [List.map_cons, List.map_nil, kidsT] at hte
    have sz : ∀ l : List UInt8, l.length ≤ 1000000 → ∀ m : List UInt8, m.length ≤ 1000000 → (strB l).size + (strB m).size ≤ 9223372036854775807 := fun l hl m hm => by rw [strB_size, strB_size]; omega
    rw [hte]
    rcases h2 with h2 | h2
    all_goals
      refine acalls_tm T_tt Tryd.func23 rfl e_showPlan 43 rfl (W8 _ .any .any .any .any .any .any .any (W8 .any .any .any .any .any .any .any .any (W8 .any .any .any .any .any .any .any .any (W8 .any .any .any .any .any .any .any .any (W8 .any .any .any .any .any .any .any .any [.any, .any, .any, .any]))))) rfl (rv := [.tmp 2]) rfl (sx_sound (bl := []) T_tt _ _ _ ?_)
      repeat' first | simp (disch := omega) only [SX0, SX1, SX2, SX3, SX4, SX5, SX6, SX7, SX8, SU0, SY0, SY1, Nat.reduceAdd, Nat.reduceMul, Nat.reduceSub, Nat.reduceLeDiff, Nat.reduceEqDiff, Nat.reduceLT, Nat.reduceBEq, ↓reduceIte, Int.reduceLE, Int.reduceLT, Int.reduceToNat, Int.reduceNeg, reduceCtorEq, Int.reduceEq, SF0, SF1, SF2, DCe0, DCe1, DCe2, DDb0, DBc0, DBc1, Plan.len, Plan.take, Plan.g0, Plan.g1, Plan.g2, Plan.g3, Plan.g4, Plan.one, Plan.pure, h2, hk, c100, c97] | fail
      refine awp_drawA T_tt mixed (by decide +kernel) (by kernel_rfl) (by kernel_rfl) ?_
      repeat' first | simp (disch := omega) only [SX0, SX1, SX2, SX3, SX4, SX5, SX6, SX7, SX8, SU0, SY0, SY1, Nat.reduceAdd, Nat.reduceMul, Nat.reduceSub, Nat.reduceLeDiff, Nat.reduceEqDiff, Nat.reduceLT, Nat.reduceBEq, ↓reduceIte, Int.reduceLE, Int.reduceLT, Int.reduceToNat, Int.reduceNeg, reduceCtorEq, Int.reduceEq, SF0, SF1, SF2, DCe0, DCe1, DCe2, DDb0, DBc0, DBc1, Plan.len, Plan.take, Plan.g0, Plan.g1, Plan.g2, Plan.g3, Plan.g4, Plan.one, Plan.pure, h2, hk, c100, c97, c40, c44, c41, strB_app, List.map_cons, List.map_nil, List.getElem?_cons_zero, List.getElem?_cons_succ] | refine req (sz _ (by first | omega | (simp only [List.length_append, List.length_cons, List.length_nil]; omega)) _ (by first | omega | (simp only [List.length_append, List.length_cons, List.length_nil]; omega))) ?_ | refine req (by omega) ?_ | refine qc_one hN2 (by rfl) ?_ | refine qc_one ix (by simp [freeL, AV.free, Plan.free]) ?_ | refine qc_one iy (by simp [freeL, AV.free, Plan.free]) ?_ | fail
      exact fin_val ⟨by simp, rfl⟩
  · rw [hte]
    have hk0 := hks h2
    have h01 : p.op = 0 ∨ p.op = 1 := by omega
    rcases h01 with h0 | h1
    · skip
      refine acalls_tm T_tt Tryd.func23 rfl e_showPlan 43 rfl (W8 _ .any .any .any .any .any .any .any (W8 .any .any .any .any .any .any .any .any (W8 .any .any .any .any .any .any .any .any (W8 .any .any .any .any .any .any .any .any (W8 .any .any .any .any .any .any .any .any [.any, .any, .any, .any]))))) rfl (rv := [.tmp 2]) rfl (sx_sound (bl := []) T_tt _ _ _ ?_)
      simp (disch := omega) only [SX0, SX1, SX2, SX3, SX4, SX5, SX6, SX7, SX8, SU0, SY0, SY1, Nat.reduceAdd, Nat.reduceMul, Nat.reduceSub, Nat.reduceLeDiff, Nat.reduceEqDiff, Nat.reduceLT, Nat.reduceBEq, ↓reduceIte, Int.reduceLE, Int.reduceLT, Int.reduceToNat, Int.reduceNeg, reduceCtorEq, Int.reduceEq, SF0, SF1, SF2, DCe0, DCe1, DCe2, DDb0, DBc0, DBc1, Plan.len, Plan.take, Plan.g0, Plan.g1, Plan.g2, Plan.g3, Plan.g4, Plan.one, Plan.pure, h0]
      exact fin_val ⟨rfl, rfl⟩
    · rw [if_neg (by omega), if_pos h1]
      have sz : (strB [116]).size + (strB (decDigits p.pa.toNat)).size ≤ 9223372036854775807 := by rw [strB_size, strB_size]; simp; omega
      cases htu : p.tu
      all_goals
        refine acalls_tm T_tt Tryd.func23 rfl e_showPlan 43 rfl (W8 _ .any .any .any .any .any .any .any (W8 .any .any .any .any .any .any .any .any (W8 .any .any .any .any .any .any .any .any (W8 .any .any .any .any .any .any .any .any (W8 .any .any .any .any .any .any .any .any [.any, .any, .any, .any]))))) rfl (rv := [.tmp 2]) rfl (sx_sound (bl := []) T_tt _ _ _ ?_)
        simp (disch := omega) only [SX0, SX1, SX2, SX3, SX4, SX5, SX6, SX7, SX8, SU0, SY0, SY1, Nat.reduceAdd, Nat.reduceMul, Nat.reduceSub, Nat.reduceLeDiff, Nat.reduceEqDiff, Nat.reduceLT, Nat.reduceBEq, ↓reduceIte, Int.reduceLE, Int.reduceLT, Int.reduceToNat, Int.reduceNeg, reduceCtorEq, Int.reduceEq, SF0, SF1, SF2, DCe0, DCe1, DCe2, DDb0, DBc0, DBc1, Plan.len, Plan.take, Plan.g0, Plan.g1, Plan.g2, Plan.g3, Plan.g4, Plan.one, Plan.pure, h1, htu]
        refine acall_one hN1 rfl rfl ?_
        simp (disch := omega) only [SX0, SX1, SX2, SX3, SX4, SX5, SX6, SX7, SX8, SU0, SY0, SY1, Nat.reduceAdd, Nat.reduceMul, Nat.reduceSub, Nat.reduceLeDiff, Nat.reduceEqDiff, Nat.reduceLT, Nat.reduceBEq, ↓reduceIte, Int.reduceLE, Int.reduceLT, Int.reduceToNat, Int.reduceNeg, reduceCtorEq, Int.reduceEq, SF0, SF1, SF2, DCe0, DCe1, DCe2, DDb0, DBc0, DBc1, c116, c112]
        refine req sz ?_
        simp (disch := omega) only [SX0, SX1, SX2, SX3, SX4, SX5, SX6, SX7, SX8, SU0, SY0, SY1, Nat.reduceAdd, Nat.reduceMul, Nat.reduceSub, Nat.reduceLeDiff, Nat.reduceEqDiff, Nat.reduceLT, Nat.reduceBEq, ↓reduceIte, Int.reduceLE, Int.reduceLT, Int.reduceToNat, Int.reduceNeg, reduceCtorEq, Int.reduceEq, SF0, SF1, SF2, DCe0, DCe1, DCe2, DDb0, DBc0, DBc1, strB_app]
        exact fin_val ⟨rfl, rfl⟩

/-- The text of a plan, empty if it has none. -/
def Plan.text (p : Plan) : List UInt8 := if 0 ≤ p.size ∧ p.cb = true then p.txt else []

theorem e_formatPlanS : Enters Tryd.prog 7 := enters_of Tryd.func7 (by kernel_rfl) (by kernel_rfl)
set_option maxHeartbeats 2000000 in
theorem formatPlanS_c (p : Plan) : ACalls Tryd.prog 7 [.agg p.cs] [] [] (fun r L => r = .val (.string (strB p.text)) ∧ L = []) := by
  unfold Plan.text
  refine acalls_tm T_tt Tryd.func7 rfl e_formatPlanS 12 rfl (W8 _ .any .any .any .any .any .any .any [.any, .any, .any, .any, .any]) rfl (rv := [.tmp 2]) rfl (sx_sound (bl := []) T_tt _ _ _ ?_)
  simp (disch := omega) only [SX0, SX1, SX2, SX3, SX4, SX5, SX6, SX7, SX8, SU0, SY0, SY1, Nat.reduceAdd, Nat.reduceMul, Nat.reduceSub, Nat.reduceLeDiff, Nat.reduceEqDiff, Nat.reduceLT, Nat.reduceBEq, ↓reduceIte, Int.reduceLE, Int.reduceLT, Int.reduceToNat, Int.reduceNeg, reduceCtorEq, Int.reduceEq, SF0, SF1, SF2, DCe0, DCe1, DCe2, DDb0, DBc0, DBc1]
  refine acall_one (planSizeS_c p) (by simp [freeL, AV.free, Plan.free]) rfl ?_
  simp (disch := omega) only [SX0, SX1, SX2, SX3, SX4, SX5, SX6, SX7, SX8, SU0, SY0, SY1, Nat.reduceAdd, Nat.reduceMul, Nat.reduceSub, Nat.reduceLeDiff, Nat.reduceEqDiff, Nat.reduceLT, Nat.reduceBEq, ↓reduceIte, Int.reduceLE, Int.reduceLT, Int.reduceToNat, Int.reduceNeg, reduceCtorEq, Int.reduceEq, SF0, SF1, SF2, DCe0, DCe1, DCe2, DDb0, DBc0, DBc1]
  refine br_dec (fun h1 => ?_) (fun h1 => ?_)
  · simp (disch := omega) only [SX0, SX1, SX2, SX3, SX4, SX5, SX6, SX7, SX8, SU0, SY0, SY1, Nat.reduceAdd, Nat.reduceMul, Nat.reduceSub, Nat.reduceLeDiff, Nat.reduceEqDiff, Nat.reduceLT, Nat.reduceBEq, ↓reduceIte, Int.reduceLE, Int.reduceLT, Int.reduceToNat, Int.reduceNeg, reduceCtorEq, Int.reduceEq, SF0, SF1, SF2, DCe0, DCe1, DCe2, DDb0, DBc0, DBc1]
    exact fin_val ⟨by rw [if_neg (fun h => by omega)]; rfl, rfl⟩
  have hp := (Plan.size_pos (p := p) (by omega)).1
  simp (disch := omega) only [SX0, SX1, SX2, SX3, SX4, SX5, SX6, SX7, SX8, SU0, SY0, SY1, Nat.reduceAdd, Nat.reduceMul, Nat.reduceSub, Nat.reduceLeDiff, Nat.reduceEqDiff, Nat.reduceLT, Nat.reduceBEq, ↓reduceIte, Int.reduceLE, Int.reduceLT, Int.reduceToNat, Int.reduceNeg, reduceCtorEq, Int.reduceEq, SF0, SF1, SF2, DCe0, DCe1, DCe2, DDb0, DBc0, DBc1]
  refine acall_one (countable_n _ p (Nat.le_refl _) hp.1) (by simp [freeL, AV.free, Plan.free]) rfl ?_
  cases hc : p.cb
  · simp (disch := omega) only [SX0, SX1, SX2, SX3, SX4, SX5, SX6, SX7, SX8, SU0, SY0, SY1, Nat.reduceAdd, Nat.reduceMul, Nat.reduceSub, Nat.reduceLeDiff, Nat.reduceEqDiff, Nat.reduceLT, Nat.reduceBEq, ↓reduceIte, Int.reduceLE, Int.reduceLT, Int.reduceToNat, Int.reduceNeg, reduceCtorEq, Int.reduceEq, SF0, SF1, SF2, DCe0, DCe1, DCe2, DDb0, DBc0, DBc1]
    exact fin_val ⟨by rw [if_neg (fun h => by cases h.2)]; rfl, rfl⟩
  · simp (disch := omega) only [SX0, SX1, SX2, SX3, SX4, SX5, SX6, SX7, SX8, SU0, SY0, SY1, Nat.reduceAdd, Nat.reduceMul, Nat.reduceSub, Nat.reduceLeDiff, Nat.reduceEqDiff, Nat.reduceLT, Nat.reduceBEq, ↓reduceIte, Int.reduceLE, Int.reduceLT, Int.reduceToNat, Int.reduceNeg, reduceCtorEq, Int.reduceEq, SF0, SF1, SF2, DCe0, DCe1, DCe2, DDb0, DBc0, DBc1]
    refine acall_one (showPlan_n _ p (Nat.le_refl _) hp.2 hp.1 hc) (by simp [freeL, AV.free, Plan.free]) rfl ?_
    simp (disch := omega) only [SX0, SX1, SX2, SX3, SX4, SX5, SX6, SX7, SX8, SU0, SY0, SY1, Nat.reduceAdd, Nat.reduceMul, Nat.reduceSub, Nat.reduceLeDiff, Nat.reduceEqDiff, Nat.reduceLT, Nat.reduceBEq, ↓reduceIte, Int.reduceLE, Int.reduceLT, Int.reduceToNat, Int.reduceNeg, reduceCtorEq, Int.reduceEq, SF0, SF1, SF2, DCe0, DCe1, DCe2, DDb0, DBc0, DBc1]
    exact fin_val ⟨by rw [if_pos (show 0 ≤ p.size by omega)], rfl⟩
end Go.Pc
