/- Texts of plans: the reference. -/
import Derived.Test.YtajkeegikligcaaDoorCe
import Derived.Lib.ItoaNum
set_option linter.unusedSimpArgs false
set_option linter.unusedVariables false
namespace Go.Pc
open Go Go.Proofs Go.Lib

def strB (l : List UInt8) : ByteArray := ⟨l.toArray⟩
theorem strB_size (l : List UInt8) : (strB l).size = l.length := by simp [strB, ByteArray.size]
theorem strB_app (l m : List UInt8) : strB l ++ strB m = strB (l ++ m) := by
  apply ByteArray.ext
  simp [strB]
theorem dec_len (n : Nat) : (decDigits n).length ≤ n + 1 := by
  induction n using Nat.strongRecOn with
  | _ n ih =>
    rw [decDigits]
    split
    · simp
    · have := ih (n / 10) (by omega)
      rw [List.length_append, List.length_singleton]
      omega
theorem digit_one : ∀ i : _root_.Fin 10, (strB [48, 49, 50, 51, 52, 53, 54, 55, 56, 57]).extract i.val (i.val + 1) = strB [UInt8.ofNat (48 + i.val)] := by decide +kernel

theorem qSlice_str {T : TypeId → Ty} {t : TypeId} (hk : (T t).kd = .str) {s : ByteArray} {a b : Nat} (hab : a ≤ b) (hb : b ≤ s.size) {K : AV → Prop} (h : K (.val (.string (s.extract a b)))) : qSlice T t (.val (.string s)) (some (.val (.int .i64 (a : Int)))) (some (.val (.int .i64 (b : Int)))) none K := by
  refine ⟨rfl, ?_⟩
  rw [hk]
  exact ⟨a, by simp [bnd], b, by simp [bnd], hab, hb, h⟩

theorem e_numberS : Enters Tryd.prog 44 := enters_of Tryd.func44 (by kernel_rfl) (by kernel_rfl)
set_option maxHeartbeats 1000000 in
theorem numberS_c : ∀ (n : Nat), n < 1000000 → ACalls Tryd.prog 44 [.val (.int .i64 n)] [] [] (fun r L => r = .val (.string (strB (decDigits n))) ∧ L = []) := by
  intro n
  induction n using Nat.strongRecOn with
  | _ n ih =>
  intro hn
  have hd : decDigits n = if n < 10 then [UInt8.ofNat (48 + n)] else decDigits (n / 10) ++ [UInt8.ofNat (48 + n % 10)] := by rw [decDigits]; split <;> simp_all
  rw [hd]
  refine acalls_tm T_tt Tryd.func44 rfl e_numberS 15 rfl (W8 _ .any .any .any .any .any .any .any (W8 .any .any .any .any .any .any .any .any [])) rfl (rv := [.tmp 2]) rfl (sx_sound (bl := []) T_tt _ _ _ ?_)
  simp (disch := omega) only [SX0, SX1, SX2, SX3, SX4, SX5, SX6, SX7, SX8, SU0, SY0, SY1, Nat.reduceAdd, Nat.reduceMul, Nat.reduceSub, Nat.reduceLeDiff, Nat.reduceEqDiff, Nat.reduceLT, Nat.reduceBEq, ↓reduceIte, Int.reduceLE, Int.reduceLT, Int.reduceToNat, Int.reduceNeg, reduceCtorEq, Int.reduceEq, SF0, SF1, SF2, DCe0, DCe1, DCe2, DDb0, DBc0, DBc1]
  refine br_dec (fun h1 => ?_) (fun h1 => ?_)
  · have d1 := digit_one ⟨n, by omega⟩
    rw [if_pos (by omega)]
    simp (disch := omega) only [SX0, SX1, SX2, SX3, SX4, SX5, SX6, SX7, SX8, SU0, SY0, SY1, Nat.reduceAdd, Nat.reduceMul, Nat.reduceSub, Nat.reduceLeDiff, Nat.reduceEqDiff, Nat.reduceLT, Nat.reduceBEq, ↓reduceIte, Int.reduceLE, Int.reduceLT, Int.reduceToNat, Int.reduceNeg, reduceCtorEq, Int.reduceEq, SF0, SF1, SF2, DCe0, DCe1, DCe2, DDb0, DBc0, DBc1]
    have en : ((n : Int) + 1) = ((n + 1 : Nat) : Int) := by omega
    rw [en]
    refine qSlice_str (by rw [T_9]) (by omega) (by show n + 1 ≤ 10; omega) ?_
    rw [show (⟨#[48, 49, 50, 51, 52, 53, 54, 55, 56, 57]⟩ : ByteArray) = strB [48, 49, 50, 51, 52, 53, 54, 55, 56, 57] from rfl, d1]
    simp (disch := omega) only [SX0, SX1, SX2, SX3, SX4, SX5, SX6, SX7, SX8, SU0, SY0, SY1, Nat.reduceAdd, Nat.reduceMul, Nat.reduceSub, Nat.reduceLeDiff, Nat.reduceEqDiff, Nat.reduceLT, Nat.reduceBEq, ↓reduceIte, Int.reduceLE, Int.reduceLT, Int.reduceToNat, Int.reduceNeg, reduceCtorEq, Int.reduceEq, SF0, SF1, SF2, DCe0, DCe1, DCe2, DDb0, DBc0, DBc1]
    exact fin_val ⟨rfl, rfl⟩
  · rw [if_neg (by omega)]
    have e1 : Int.tdiv (n : Int) 10 = ((n / 10 : Nat) : Int) := rfl
    have e2 : Int.tmod (n : Int) 10 = ((n % 10 : Nat) : Int) := rfl
    have l1 := dec_len (n / 10)
    have l2 := dec_len (n % 10)
    have hd2 : decDigits (n % 10) = [UInt8.ofNat (48 + n % 10)] := by rw [decDigits, dif_pos (by omega)]
    simp (disch := omega) only [SX0, SX1, SX2, SX3, SX4, SX5, SX6, SX7, SX8, SU0, SY0, SY1, Nat.reduceAdd, Nat.reduceMul, Nat.reduceSub, Nat.reduceLeDiff, Nat.reduceEqDiff, Nat.reduceLT, Nat.reduceBEq, ↓reduceIte, Int.reduceLE, Int.reduceLT, Int.reduceToNat, Int.reduceNeg, reduceCtorEq, Int.reduceEq, SF0, SF1, SF2, DCe0, DCe1, DCe2, DDb0, DBc0, DBc1, e1]
    refine acall_one (ih (n / 10) (by omega) (by omega)) rfl rfl ?_
    simp (disch := omega) only [SX0, SX1, SX2, SX3, SX4, SX5, SX6, SX7, SX8, SU0, SY0, SY1, Nat.reduceAdd, Nat.reduceMul, Nat.reduceSub, Nat.reduceLeDiff, Nat.reduceEqDiff, Nat.reduceLT, Nat.reduceBEq, ↓reduceIte, Int.reduceLE, Int.reduceLT, Int.reduceToNat, Int.reduceNeg, reduceCtorEq, Int.reduceEq, SF0, SF1, SF2, DCe0, DCe1, DCe2, DDb0, DBc0, DBc1, e2]
    refine acall_one (ih (n % 10) (by omega) (by omega)) rfl rfl ?_
    refine req (by rw [strB_size, strB_size]; omega) ?_
    simp (disch := omega) only [SX0, SX1, SX2, SX3, SX4, SX5, SX6, SX7, SX8, SU0, SY0, SY1, Nat.reduceAdd, Nat.reduceMul, Nat.reduceSub, Nat.reduceLeDiff, Nat.reduceEqDiff, Nat.reduceLT, Nat.reduceBEq, ↓reduceIte, Int.reduceLE, Int.reduceLT, Int.reduceToNat, Int.reduceNeg, reduceCtorEq, Int.reduceEq, SF0, SF1, SF2, DCe0, DCe1, DCe2, DDb0, DBc0, DBc1, strB_app, hd2]
    exact fin_val ⟨rfl, rfl⟩

/-! ### Numbers that have texts -/

mutual
def Plan.cb : Plan → Bool
  | .mk _ a p _ ks => decide (0 ≤ a ∧ a ≤ 200) && decide (0 ≤ p ∧ p ≤ 24) && cbL ks
def cbL : List Plan → Bool
  | [] => true
  | q :: l => q.cb && cbL l
end
theorem cbL_all : ∀ l : List Plan, cbL l = true ↔ ∀ q ∈ l, q.cb = true
  | [] => by simp [cbL]
  | q :: l => by simp [cbL, cbL_all l]
theorem Plan.cb_iff (p : Plan) : p.cb = true ↔ (0 ≤ p.at_ ∧ p.at_ ≤ 200) ∧ (0 ≤ p.pa ∧ p.pa ≤ 24) ∧ ∀ q ∈ p.ks, q.cb = true := by
  cases p
  simp [Plan.cb, cbL_all, Plan.at_, Plan.pa, Plan.ks, and_assoc]

/-! ### The text -/

def kidsT : List (List UInt8) → List UInt8
  | [a, b] => a ++ 44 :: (b ++ [41])
  | _ => []
mutual
def Plan.txt : Plan → List UInt8
  | .mk o a p t ks => if o = 0 then [119] else if o = 1 then (if t then 116 else 112) :: decDigits p.toNat else (if o = 2 then 100 else 97) :: (decDigits a.toNat ++ 40 :: kidsT (txtL ks))
def txtL : List Plan → List (List UInt8)
  | [] => []
  | q :: l => q.txt :: txtL l
end
theorem txtL_map (l : List Plan) : txtL l = l.map Plan.txt := by
  induction l with
  | nil => simp [txtL]
  | cons q l ih => simp [txtL, ih]
theorem Plan.txt_eq (p : Plan) : p.txt = if p.op = 0 then [119] else if p.op = 1 then (if p.tu then 116 else 112) :: decDigits p.pa.toNat else (if p.op = 2 then 100 else 97) :: (decDigits p.at_.toNat ++ 40 :: kidsT (p.ks.map Plan.txt)) := by
  cases p
  rw [Plan.txt, txtL_map]
  rfl

theorem wf_op {p : Plan} (h : p.wf = true) : (p.op = 0 ∨ p.op = 1 ∨ p.op = 2 ∨ p.op = 3) ∧ (¬ p.cut → p.ks = []) := by
  have := ((Plan.wf_iff p).1 h).1
  unfold Plan.good at this
  split at this
  · rename_i hc
    unfold Plan.cut at hc
    exact ⟨by omega, fun h => absurd hc h⟩
  · exact ⟨by omega, fun _ => List.length_eq_zero_iff.1 this.1⟩
theorem txt_len : ∀ (n : Nat) (p : Plan), p.nodes ≤ n → p.wf = true → p.cb = true → p.txt.length ≤ 300 * p.nodes := by
  intro n
  induction n with
  | zero => intro p h; have := p.nodes_pos; omega
  | succ n ih =>
  intro p hn hw hc
  obtain ⟨h1, h2, h3⟩ := (Plan.cb_iff p).1 hc
  have l1 := dec_len p.pa.toNat
  have l2 := dec_len p.at_.toNat
  have hp := p.nodes_pos
  rw [Plan.txt_eq]
  split
  · simp; omega
  split
  · simp; omega
  · rename_i g0 g1
    have hcut : p.cut := by
      have := (wf_op hw).1
      unfold Plan.cut; omega
    obtain ⟨x, y, hk, hx, hy, nx, ny⟩ := Plan.two hw hcut
    have hne := p.nodes_eq
    rw [hk] at hne
    simp only [Plan.nodesL] at hne
    have i1 := ih x (by omega) hx (h3 x (by rw [hk]; simp))
    have i2 := ih y (by omega) hy (h3 y (by rw [hk]; simp))
    rw [hk]
    simp [kidsT]
    omega

end Go.Pc
