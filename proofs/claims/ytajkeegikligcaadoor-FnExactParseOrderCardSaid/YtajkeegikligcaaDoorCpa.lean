/- Texts of plans: the reference. -/
import Derived.Test.YtajkeegikligcaaDoorCe
import Derived.Lib.ItoaNum
set_option linter.unusedSimpArgs false
set_option linter.unusedVariables false
namespace Go.Pc
open Go Go.Proofs Go.Lib

def strB (l : List UInt8) : ByteArray := ⟨l.toArray⟩
theorem strB_size (l : List UInt8) : (strB l).size = l.length := by simp [strB, ByteArray.size]
theorem strB_app (l m : List UInt8) : strB l ++ strB m = strB (l ++ m) := by
  apply ByteArray.ext
  simp [strB]
theorem dec_len (n : Nat) : (decDigits n).length ≤ n + 1 := by
  induction n using Nat.strongRecOn with
  | _ n ih =>
    rw [decDigits]
    split
    · simp
    · have := ih (n / 10) (by omega)
      rw [List.length_append, List.length_singleton]
      omega
theorem digit_one : ∀ i : _root_.Fin 10, (strB [48, 49, 50, 51, 52, 53, 54, 55, 56, 57]).extract i.val (i.val + 1) = strB [UInt8.ofNat (48 + i.val)] := by decide +kernel

theorem qSlice_str {T : TypeId → Ty} {t : TypeId} (hk : (T t).kd = .str) {s : ByteArray} {a b : Nat} (hab : a ≤ b) (hb : b ≤ s.size) {K : AV → Prop} (h : K (.val (.string (s.extract a b)))) : qSlice T t (.val (.string s)) (some (.val (.int .i64 (a : Int)))) (some (.val (.int .i64 (b : Int)))) none K := by
  refine ⟨rfl, ?_⟩
  rw [hk]
  exact ⟨a, by simp [bnd], b, by simp [bnd], hab, hb, h⟩

theorem e_numberS : Enters Tryd.prog 44 := enters_of Tryd.func44 (by kernel_rfl) (by kernel_rfl)
set_option maxHeartbeats 1000000 in
theorem numberS_c : ∀ (n : Nat), n < 1000000 → ACalls Tryd.prog 44 [.val (.int .i64 n)] [] [] (fun r L => r = .val (.string (strB (decDigits n))) ∧ L = []) := by
  intro n
  induction n using Nat.strongRecOn with
  | _ n ih =>
  intro hn
  have hd : decDigits n = if n < 10 then [UInt8.ofNat (48 + n)] else decDigits (n / 10) ++ [UInt8.ofNat (48 + n % 10)] := by rw [decDigits]; split <;> simp_all
  rw [hd]
  refine acalls_tm T_tt Tryd.func44 rfl e_numberS 15 rfl (W8 _ .any .any .any .any .any .any .any (W8 .any .any .any .any .any .any .any .any [])) rfl (rv := [.tmp 2]) rfl (sx_sound (bl := []) T_tt _ _ _ ?_)
  simp (disch := omega) only [SX0, SX1, SX2, SX3, SX4, SX5, SX6, SX7, SX8, SU0, SY0, SY1, Nat.reduceAdd, Nat.reduceMul, Nat.reduceSub, Nat.reduceLeDiff, Nat.reduceEqDiff, Nat.reduceLT, Nat.reduceBEq, ↓reduceIte, Int.reduceLE, Int.reduceLT, Int.reduceToNat, Int.reduceNeg, reduceCtorEq, Int.reduceEq, SF0, SF1, SF2, DCe0, DCe1, DCe2, DDb0, DBc0, DBc1]
  refine br_dec (fun h1 => ?_) (fun h1 => ?_)
  · have d1 := digit_one ⟨n, by omega⟩
    rw [if_pos (by omega)]
    simp (disch := omega) only [SX0, SX1, SX2, SX3, SX4, SX5, SX6, SX7, SX8, SU0, SY0, SY1, Nat.reduceAdd, Nat.reduceMul, Nat.reduceSub, Nat.reduceLeDiff, Nat.reduceEqDiff, Nat.reduceLT, Nat.reduceBEq, ↓reduceIte, Int.reduceLE, Int.reduceLT, Int.reduceToNat, Int.reduceNeg, reduceCtorEq, Int.reduceEq, SF0, SF1, SF2, DCe0, DCe1, DCe2, DDb0, DBc0, DBc1]
    have en : ((n : Int) + 1) = ((n + 1 : Nat) : Int) := by omega
    rw [en]
    refine qSlice_str (by rw [T_9]) (by omega) (by show n + 1 ≤ 10; omega) ?_
    rw [show (⟨#[48, 49, 50, 51, 52, 53, 54, 55, 56, 57]⟩ : ByteArray) = strB [48, 49, 50, 51, 52, 53, 54, 55, 56, 57] from rfl, d1]
    simp (disch := omega) only [SX0, SX1, SX2, SX3, SX4, SX5, SX6, SX7, SX8, SU0, SY0, SY1, Nat.reduceAdd, Nat.reduceMul, Nat.reduceSub, Nat.reduceLeDiff, Nat.reduceEqDiff, Nat.reduceLT, Nat.reduceBEq, ↓reduceIte, Int.reduceLE, Int.reduceLT, Int.reduceToNat, Int.reduceNeg, reduceCtorEq, Int.reduceEq, SF0, SF1, SF2, DCe0, DCe1, DCe2, DDb0, DBc0, DBc1]
    exact fin_val ⟨rfl, rfl⟩
  · rw [if_neg (by omega)]
    have e1 : Int.tdiv (n : Int) 10 = ((n / 10 : Nat) : Int) := rfl
    have e2 : Int.tmod (n : Int) 10 = ((n % 10 : Nat) : Int) := rfl
    have l1 := dec_len (n / 10)
    have l2 := dec_len (n % 10)
    have hd2 : decDigits (n % 10) = [UInt8.ofNat (48 + n % 10)] := by rw [decDigits, dif_pos (by omega)]
    simp (disch := omega) only [SX0, SX1, SX2, SX3, SX4, SX5, SX6, SX7, SX8, SU0, SY0, SY1, Nat.reduceAdd, Nat.reduceMul, Nat.reduceSub, Nat.reduceLeDiff, Nat.reduceEqDiff, Nat.reduceLT, Nat.reduceBEq, ↓reduceIte, Int.reduceLE, Int.reduceLT, Int.reduceToNat, Int.reduceNeg, reduceCtorEq, Int.reduceEq, SF0, SF1, SF2, DCe0, DCe1, DCe2, DDb0, DBc0, DBc1, e1]
    refine acall_one (ih (n / 10) (by omega) (by omega)) rfl rfl ?_
    simp (disch := omega) only [SX0, SX1, SX2, SX3, SX4, SX5, SX6, SX7, SX8, SU0, SY0, SY1, Nat.reduceAdd, Nat.reduceMul, Nat.reduceSub, Nat.reduceLeDiff, Nat.reduceEqDiff, Nat.reduceLT, Nat.reduceBEq, ↓reduceIte, Int.reduceLE, Int.reduceLT, Int.reduceToNat, Int.reduceNeg, reduceCtorEq, Int.reduceEq, SF0, SF1, SF2, DCe0, DCe1, DCe2, DDb0, DBc0, DBc1, e2]
    refine acall_one (ih (n % 10) (by omega) (by omega)) rfl rfl ?_
    refine req (by rw [strB_size, strB_size]; omega) ?_
    simp (disch := omega) only [SX0, SX1, SX2, SX3, SX4, SX5, SX6, SX7, SX8, SU0, SY0, SY1, Nat.reduceAdd, Nat.reduceMul, Nat.reduceSub, Nat.reduceLeDiff, Nat.reduceEqDiff, Nat.reduceLT, Nat.reduceBEq, ↓reduceIte, Int.reduceLE, Int.reduceLT, Int.reduceToNat, Int.reduceNeg, reduceCtorEq, Int.reduceEq, SF0, SF1, SF2, DCe0, DCe1, DCe2, DDb0, DBc0, DBc1, strB_app, hd2]
    exact fin_val ⟨rfl, rfl⟩

/-! ### Numbers that have texts -/

mutual
def Plan.cb : Plan → Bool
  | .mk _ a p _ ks => decide (0 ≤ a ∧ a ≤ 200) && decide (0 ≤ p ∧ p ≤ 24) && cbL ks
def cbL : List Plan → Bool
  | [] => true
  | q :: l => q.cb && cbL l
end
end Go.Pc
