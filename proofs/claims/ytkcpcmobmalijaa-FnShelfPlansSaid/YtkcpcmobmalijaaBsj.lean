/- The law of rows of panes: it holds of all bytes. -/
import Derived.Test.YtkcpcmobmalijaaBsh
import Derived.Test.YtkcpcmobmalijaaBsi
import Derived.Test.YtkcpcmobmalijaaBdc
import Derived.Test.YtkcpcmobmalijaaRow
set_option linter.unusedSimpArgs false
set_option linter.unusedVariables false
namespace Go.Pc
open Go Go.Proofs

theorem e_equalPlans : Enters Try.prog 32 := enters_of Try.func32 (by kernel_rfl) (by kernel_rfl)
set_option maxHeartbeats 1000000 in
theorem equalPlans_c (l : List Plan) (hw : ∀ p ∈ l, p.wf = true) (hl : l.length < 2 ^ 40) : ACalls Try.prog 32 [.sl (l.map Plan.cs), .sl (l.map Plan.cs)] [] [] (fun r L => r = .val (.bool true) ∧ L = []) := by
  refine acalls_tm T_tt Try.func32 rfl e_equalPlans 25 rfl (W8 _ _ .any .any .any .any .any .any (W8 .any .any .any .any .any .any .any .any (W8 .any .any .any .any .any .any .any .any [.any, .any, .any]))) rfl (rv := [.tmp 4]) rfl (sx_sound (bl := []) T_tt _ _ _ ?_)
  simp (disch := omega) only [SX0, SX1, SX2, SX3, SX4, SX5, SX6, SX7, SX8, SU0, SY0, SY1, Nat.reduceAdd, Nat.reduceMul, Nat.reduceSub, Nat.reduceLeDiff, Nat.reduceEqDiff, Nat.reduceLT, Nat.reduceBEq, ↓reduceIte, Int.reduceLE, Int.reduceLT, Int.reduceToNat, Int.reduceNeg, reduceCtorEq, Int.reduceEq, SF0, SF1, SF2, DHb0, DHb1, DHa0, DCg0, DCe0, DCe1, DCe2, DDb0, DBc0, DBc1, DDe0, DAlh0, DAlv0, DAlg0]
  with_reducible refine awp_loop_h (G := Nat) 6 21 (fun i => [(5, .val (.int .i64 i))]) (fun _ => []) (fun i => i ≤ l.length) (fun i => l.length - i) 0 (Nat.zero_le _) ?_ (fun i hi => sx_sound (bl := []) T_tt _ _ _ ?_)
  · simp (disch := omega) only [SX0, SX1, SX2, SX3, SX4, SX5, SX6, SX7, SX8, SU0, SY0, SY1, Nat.reduceAdd, Nat.reduceMul, Nat.reduceSub, Nat.reduceLeDiff, Nat.reduceEqDiff, Nat.reduceLT, Nat.reduceBEq, ↓reduceIte, Int.reduceLE, Int.reduceLT, Int.reduceToNat, Int.reduceNeg, reduceCtorEq, Int.reduceEq, SF0, SF1, SF2, DHb0, DHb1, DHa0, DCg0, DCe0, DCe1, DCe2, DDb0, DBc0, DBc1, DDe0, DAlh0, DAlv0, DAlg0]
    (refine wk_le ?_ ?_ ?_; (focus (simp [W8, leTm, leAV, AV.under, underL]; done)); (focus (simp [leL, OB.under, underL, AV.under]; done)); (focus (simp; done)))
  simp (disch := omega) only [SX0, SX1, SX2, SX3, SX4, SX5, SX6, SX7, SX8, SU0, SY0, SY1, Nat.reduceAdd, Nat.reduceMul, Nat.reduceSub, Nat.reduceLeDiff, Nat.reduceEqDiff, Nat.reduceLT, Nat.reduceBEq, ↓reduceIte, Int.reduceLE, Int.reduceLT, Int.reduceToNat, Int.reduceNeg, reduceCtorEq, Int.reduceEq, SF0, SF1, SF2, DHb0, DHb1, DHa0, DCg0, DCe0, DCe1, DCe2, DDb0, DBc0, DBc1, DDe0, DAlh0, DAlv0, DAlg0]
  refine br_dec (fun h1 => ?_) (fun h1 => ?_)
  · obtain ⟨p, hp⟩ := get_lt (l := l) (i := i) (by omega)
    have EQ := equalPlan_n _ p (Nat.le_refl _) (hw p (List.mem_of_getElem? hp))
    simp (disch := omega) only [SX0, SX1, SX2, SX3, SX4, SX5, SX6, SX7, SX8, SU0, SY0, SY1, Nat.reduceAdd, Nat.reduceMul, Nat.reduceSub, Nat.reduceLeDiff, Nat.reduceEqDiff, Nat.reduceLT, Nat.reduceBEq, ↓reduceIte, Int.reduceLE, Int.reduceLT, Int.reduceToNat, Int.reduceNeg, reduceCtorEq, Int.reduceEq, SF0, SF1, SF2, DHb0, DHb1, DHa0, DCg0, DCe0, DCe1, DCe2, DDb0, DBc0, DBc1, DDe0, DAlh0, DAlv0, DAlg0]
    refine awp_drawA T_tt mixed (by decide +kernel) (by kernel_rfl) (by kernel_rfl) ?_
    repeat' first | simp (disch := omega) only [SX0, SX1, SX2, SX3, SX4, SX5, SX6, SX7, SX8, SU0, SY0, SY1, Nat.reduceAdd, Nat.reduceMul, Nat.reduceSub, Nat.reduceLeDiff, Nat.reduceEqDiff, Nat.reduceLT, Nat.reduceBEq, ↓reduceIte, Int.reduceLE, Int.reduceLT, Int.reduceToNat, Int.reduceNeg, reduceCtorEq, Int.reduceEq, SF0, SF1, SF2, DHb0, DHb1, DHa0, DCg0, DCe0, DCe1, DCe2, DDb0, DBc0, DBc1, DDe0, DAlh0, DAlv0, DAlg0, hp] | refine req (by omega) ?_ | fail
    refine qc_one EQ (by simp [freeL, AV.free, Plan.free]) ?_
    simp (disch := omega) only [SX0, SX1, SX2, SX3, SX4, SX5, SX6, SX7, SX8, SU0, SY0, SY1, Nat.reduceAdd, Nat.reduceMul, Nat.reduceSub, Nat.reduceLeDiff, Nat.reduceEqDiff, Nat.reduceLT, Nat.reduceBEq, ↓reduceIte, Int.reduceLE, Int.reduceLT, Int.reduceToNat, Int.reduceNeg, reduceCtorEq, Int.reduceEq, SF0, SF1, SF2, DHb0, DHb1, DHa0, DCg0, DCe0, DCe1, DCe2, DDb0, DBc0, DBc1, DDe0, DAlh0, DAlv0, DAlg0]
    refine ⟨i + 1, by omega, by omega, ?_⟩
    (refine wk_le ?_ ?_ ?_; (focus (simp [W8, leTm, leAV, AV.under, underL]; done)); (focus (simp [leL, OB.under, underL, AV.under]; done)); (focus (simp; done)))
  · simp (disch := omega) only [SX0, SX1, SX2, SX3, SX4, SX5, SX6, SX7, SX8, SU0, SY0, SY1, Nat.reduceAdd, Nat.reduceMul, Nat.reduceSub, Nat.reduceLeDiff, Nat.reduceEqDiff, Nat.reduceLT, Nat.reduceBEq, ↓reduceIte, Int.reduceLE, Int.reduceLT, Int.reduceToNat, Int.reduceNeg, reduceCtorEq, Int.reduceEq, SF0, SF1, SF2, DHb0, DHb1, DHa0, DCg0, DCe0, DCe1, DCe2, DDb0, DBc0, DBc1, DDe0, DAlh0, DAlv0, DAlg0]
    exact fin_val ⟨rfl, rfl⟩

/-- How often each index is in a list. -/
def cntI (n : Nat) (l : List Int) : List Int := (List.range n).map fun j : Nat => ((l.countP (fun x => decide (x = (j : Int))) : Nat) : Int)
theorem cntI_len (n : Nat) (l : List Int) : (cntI n l).length = n := by simp [cntI]
theorem cntI_nil (n : Nat) : ints (cntI n []) = List.replicate n [.val (.int .i64 0)] := by
  apply List.ext_getElem <;> simp [cntI, ints]
theorem cntI_get {n : Nat} {l : List Int} {j : Nat} (h : j < n) : (cntI n l)[j]? = some ((l.countP (fun x => decide (x = (j : Int))) : Nat) : Int) := by
  simp only [cntI, List.getElem?_map, List.getElem?_range h]; rfl
/-- The first ones are counted in both lists. -/
def mixI (n : Nat) (a b : List Int) (j : Nat) : List Int := (List.range n).map fun x : Nat => ((a.countP (fun y => decide (y = (x : Int))) : Nat) : Int) + if x < j then ((b.countP (fun y => decide (y = (x : Int))) : Nat) : Int) else 0
theorem mixI_len (n : Nat) (a b : List Int) (j : Nat) : (mixI n a b j).length = n := by simp [mixI]
theorem mixI_zero (n : Nat) (a b : List Int) : mixI n a b 0 = cntI n a := by
  unfold mixI cntI
  refine List.map_congr_left fun x _ => ?_
  simp
theorem mixI_all (n : Nat) (a b : List Int) : mixI n a b n = cntI n (a ++ b) := by
  unfold mixI cntI
  refine List.map_congr_left fun x hx => ?_
  rw [if_pos (List.mem_range.1 hx), List.countP_append]
  omega
theorem mixI_get {n : Nat} {a b : List Int} {j : Nat} (h : j < n) : (mixI n a b j)[j]? = some ((a.countP (fun y => decide (y = (j : Int))) : Nat) : Int) := by
  simp only [mixI, List.getElem?_map, List.getElem?_range h]; simp
theorem mixI_set {n : Nat} {a b : List Int} {j : Nat} (h : j < n) : (mixI n a b j).set j (((a.countP (fun y => decide (y = (j : Int))) : Nat) : Int) + ((b.countP (fun y => decide (y = (j : Int))) : Nat) : Int)) = mixI n a b (j + 1) := by
  apply List.ext_getElem
  · simp [mixI]
  · intro x h1 h2
    rw [List.getElem_set]
    simp only [mixI, List.getElem_map, List.getElem_range]
    by_cases e : j = x
    · subst e; rw [if_pos rfl, if_pos (by omega)]
    · rw [if_neg e]
      by_cases c : x < j
      · rw [if_pos c, if_pos (by omega)]
      · rw [if_neg c, if_neg (by omega)]
theorem upTo_count {n j : Nat} (h : j < n) : (upTo n).countP (fun x => decide (x = (j : Int))) = 1 := by
  induction n with
  | zero => omega
  | succ n ih =>
    rw [upTo_next, List.countP_append]
    by_cases e : j = n
    · subst e
      have : (upTo j).countP (fun x => decide (x = (j : Int))) = 0 := by
        rw [List.countP_eq_zero]
        intro x hx
        have := mem_upTo.1 hx
        simp
        omega
      rw [this]; simp
    · rw [ih (by omega)]
      have : ¬ ((n : Int) = (j : Int)) := by omega
      simp [this]

theorem sheet_facts {k : Work} (hk : plainW k) {t : List (List Int)} (ht : SheetOk k t) (hl : t.flatten.length ≤ 24) :
    (sheetP k t k.H).valid k ∧ (sheetP k t k.H).stg 0 ≤ 3 ∧ (sheetP k t k.H).used k = cntI k.Ps.length t.flatten := by
  obtain ⟨h1, h2, h3, h4, h5, h6⟩ := sheetP_all hk t k.H ht.rows ht.high
  have h7 := flat_len (A := t) fun r hr => (ht.rows r hr).ne
  have hv : (sheetP k t k.H).valid k := ⟨hk.1, ⟨h1, by omega⟩, h3⟩
  refine ⟨hv, h6 0, ?_⟩
  unfold Plan.used
  rw [if_pos hv]
  unfold cnts cntI
  refine List.map_congr_left fun x _ => ?_
  have := h4 k.sheet
  unfold Plan.pas at this
  rw [← this, List.countP_map]
  rfl

theorem e_fnShelfPlans : Enters Try.prog 5 := enters_of Try.func5 (by kernel_rfl) (by kernel_rfl)
set_option maxRecDepth 16000 in
set_option maxHeartbeats 8000000 in
theorem fnShelfPlans_c : LawC 5 := by
  intro xs hx hl
  refine acalls_tm T_tt Try.func5 rfl e_fnShelfPlans 96 rfl (W8 _ .any .any .any .any .any .any .any (W8 .any .any .any .any .any .any .any .any (W8 .any .any .any .any .any .any .any .any (W8 .any .any .any .any .any .any .any .any (W8 .any .any .any .any .any .any .any .any (W8 .any .any .any .any .any .any .any .any (W8 .any .any .any .any .any .any .any .any (W8 .any .any .any .any .any .any .any .any (W8 .any .any .any .any .any .any .any .any (W8 .any .any .any .any .any .any .any .any (W8 .any .any .any .any .any .any .any .any (W8 .any .any .any .any .any .any .any .any [.any])))))))))))) rfl (rv := [.tmp 2]) rfl (sx_sound (bl := []) T_tt _ _ _ ?_)
  simp (disch := omega) only [SX0, SX1, SX2, SX3, SX4, SX5, SX6, SX7, SX8, SU0, SY0, SY1, Nat.reduceAdd, Nat.reduceMul, Nat.reduceSub, Nat.reduceLeDiff, Nat.reduceEqDiff, Nat.reduceLT, Nat.reduceBEq, ↓reduceIte, Int.reduceLE, Int.reduceLT, Int.reduceToNat, Int.reduceNeg, reduceCtorEq, Int.reduceEq, SF0, SF1, SF2, DHb0, DHb1, DHa0, DCg0, DCe0, DCe1, DCe2, DDb0, DBc0, DBc1, DDe0, DAlh0, DAlv0, DAlg0, bysLen]
  refine br_dec (fun h1 => ?_) (fun h1 => ?_)
  · simp (disch := omega) only [SX0, SX1, SX2, SX3, SX4, SX5, SX6, SX7, SX8, SU0, SY0, SY1, Nat.reduceAdd, Nat.reduceMul, Nat.reduceSub, Nat.reduceLeDiff, Nat.reduceEqDiff, Nat.reduceLT, Nat.reduceBEq, ↓reduceIte, Int.reduceLE, Int.reduceLT, Int.reduceToNat, Int.reduceNeg, reduceCtorEq, Int.reduceEq, SF0, SF1, SF2, DHb0, DHb1, DHa0, DCg0, DCe0, DCe1, DCe2, DDb0, DBc0, DBc1, DDe0, DAlh0, DAlv0, DAlg0]
    exact fin_val ⟨rfl, rfl⟩
  simp (disch := omega) only [SX0, SX1, SX2, SX3, SX4, SX5, SX6, SX7, SX8, SU0, SY0, SY1, Nat.reduceAdd, Nat.reduceMul, Nat.reduceSub, Nat.reduceLeDiff, Nat.reduceEqDiff, Nat.reduceLT, Nat.reduceBEq, ↓reduceIte, Int.reduceLE, Int.reduceLT, Int.reduceToNat, Int.reduceNeg, reduceCtorEq, Int.reduceEq, SF0, SF1, SF2, DHb0, DHb1, DHa0, DCg0, DCe0, DCe1, DCe2, DDb0, DBc0, DBc1, DDe0, DAlh0, DAlv0, DAlg0]
  refine acall_own (drawShelfPlans_c xs hx) [] [] (by simp only [SX0, SX1, SX2, SX3, SX4, SX5, SX6, SX7, SX8, SU0, SY0, SY1, Nat.reduceAdd, Nat.reduceMul, Nat.reduceSub, Nat.reduceLeDiff, Nat.reduceEqDiff, Nat.reduceLT, Nat.reduceBEq, ↓reduceIte, Int.reduceLE, Int.reduceLT, Int.reduceToNat, Int.reduceNeg, reduceCtorEq, Int.reduceEq, SF0, SF1, SF2, DHb0, DHb1, DHa0, DCg0, DCe0, DCe1, DCe2, DDb0, DBc0, DBc1, DDe0, DAlh0, DAlv0, DAlg0, SX0]) (by decide) (by decide) (by rfl) (by simp only [SX0, SX1, SX2, SX3, SX4, SX5, SX6, SX7, SX8, SU0, SY0, SY1, Nat.reduceAdd, Nat.reduceMul, Nat.reduceSub, Nat.reduceLeDiff, Nat.reduceEqDiff, Nat.reduceLT, Nat.reduceBEq, ↓reduceIte, Int.reduceLE, Int.reduceLT, Int.reduceToNat, Int.reduceNeg, reduceCtorEq, Int.reduceEq, SF0, SF1, SF2, DHb0, DHb1, DHa0, DCg0, DCe0, DCe1, DCe2, DDb0, DBc0, DBc1, DDe0, DAlh0, DAlv0, DAlg0, SX0]) ?_
  rintro _ _ ⟨rfl, k, rfl, hk⟩
  have hk7 := hk.2.2.1
  obtain ⟨o, ho⟩ := OrdS.ex k
  have SI := shelfOfI_c k o ho (by omega)
  have SS := shelfOfS_c k (by omega) o ho
  have hol := ho.len
  have facts : ∀ p ∈ shelfOf k o, p.wf = true := fun p hp => by
    unfold shelfOf at hp
    split at hp
    · rename_i hpl
      obtain ⟨t, ht, rfl⟩ := List.mem_map.1 hp
      have := (shRun_all hpl ho).2 t ht
      exact (sheetP_all hpl t k.H this.rows this.high).1
    · cases hp
  have hpl : shelfOf k o ≠ [] → plainW k := fun h => by
    unfold shelfOf at h
    split at h
    · assumption
    · exact absurd rfl h
  have hsl : shelfOf k o = if plainW k then (shRun k o).all.map fun t => sheetP k t k.H else [] := rfl
  have hlen : (shelfOf k o).length ≤ 7 := by
    unfold shelfOf
    split
    · rename_i hp
      have := sheets_len (shRun_all hp ho).2
      rw [(shRun_all hp ho).1, ho.len] at this
      unfold shelfPlansP
      rw [List.length_map]
      omega
    · simp
  have EQ := equalPlans_c (shelfOf k o) facts (by omega)
  generalize hso : shelfOf k o = S at *
  simp (disch := omega) only [SX0, SX1, SX2, SX3, SX4, SX5, SX6, SX7, SX8, SU0, SY0, SY1, Nat.reduceAdd, Nat.reduceMul, Nat.reduceSub, Nat.reduceLeDiff, Nat.reduceEqDiff, Nat.reduceLT, Nat.reduceBEq, ↓reduceIte, Int.reduceLE, Int.reduceLT, Int.reduceToNat, Int.reduceNeg, reduceCtorEq, Int.reduceEq, SF0, SF1, SF2, DHb0, DHb1, DHa0, DCg0, DCe0, DCe1, DCe2, DDb0, DBc0, DBc1, DDe0, DAlh0, DAlv0, DAlg0]
  refine acall_one SI (by simp [freeL, AV.free, Work.free]) (by simp [freeL, AV.free]) ?_
  simp (disch := omega) only [SX0, SX1, SX2, SX3, SX4, SX5, SX6, SX7, SX8, SU0, SY0, SY1, Nat.reduceAdd, Nat.reduceMul, Nat.reduceSub, Nat.reduceLeDiff, Nat.reduceEqDiff, Nat.reduceLT, Nat.reduceBEq, ↓reduceIte, Int.reduceLE, Int.reduceLT, Int.reduceToNat, Int.reduceNeg, reduceCtorEq, Int.reduceEq, SF0, SF1, SF2, DHb0, DHb1, DHa0, DCg0, DCe0, DCe1, DCe2, DDb0, DBc0, DBc1, DDe0, DAlh0, DAlv0, DAlg0]
  refine acall_one SS (by simp [freeL, AV.free, Work.free]) (by simp [freeL, AV.free]) ?_
  simp (disch := omega) only [SX0, SX1, SX2, SX3, SX4, SX5, SX6, SX7, SX8, SU0, SY0, SY1, Nat.reduceAdd, Nat.reduceMul, Nat.reduceSub, Nat.reduceLeDiff, Nat.reduceEqDiff, Nat.reduceLT, Nat.reduceBEq, ↓reduceIte, Int.reduceLE, Int.reduceLT, Int.reduceToNat, Int.reduceNeg, reduceCtorEq, Int.reduceEq, SF0, SF1, SF2, DHb0, DHb1, DHa0, DCg0, DCe0, DCe1, DCe2, DDb0, DBc0, DBc1, DDe0, DAlh0, DAlv0, DAlg0]
  refine acall_one EQ (by simp [freeL, AV.free]) rfl ?_
  simp (disch := omega) only [SX0, SX1, SX2, SX3, SX4, SX5, SX6, SX7, SX8, SU0, SY0, SY1, Nat.reduceAdd, Nat.reduceMul, Nat.reduceSub, Nat.reduceLeDiff, Nat.reduceEqDiff, Nat.reduceLT, Nat.reduceBEq, ↓reduceIte, Int.reduceLE, Int.reduceLT, Int.reduceToNat, Int.reduceNeg, reduceCtorEq, Int.reduceEq, SF0, SF1, SF2, DHb0, DHb1, DHa0, DCg0, DCe0, DCe1, DCe2, DDb0, DBc0, DBc1, DDe0, DAlh0, DAlv0, DAlg0]
  refine br_dec (fun h2 => ?_) (fun h2 => ?_)
  · simp (disch := omega) only [SX0, SX1, SX2, SX3, SX4, SX5, SX6, SX7, SX8, SU0, SY0, SY1, Nat.reduceAdd, Nat.reduceMul, Nat.reduceSub, Nat.reduceLeDiff, Nat.reduceEqDiff, Nat.reduceLT, Nat.reduceBEq, ↓reduceIte, Int.reduceLE, Int.reduceLT, Int.reduceToNat, Int.reduceNeg, reduceCtorEq, Int.reduceEq, SF0, SF1, SF2, DHb0, DHb1, DHa0, DCg0, DCe0, DCe1, DCe2, DDb0, DBc0, DBc1, DDe0, DAlh0, DAlv0, DAlg0]
    refine acall_one SS (by simp [freeL, AV.free, Work.free]) (by simp [freeL, AV.free]) ?_
    simp (disch := omega) only [SX0, SX1, SX2, SX3, SX4, SX5, SX6, SX7, SX8, SU0, SY0, SY1, Nat.reduceAdd, Nat.reduceMul, Nat.reduceSub, Nat.reduceLeDiff, Nat.reduceEqDiff, Nat.reduceLT, Nat.reduceBEq, ↓reduceIte, Int.reduceLE, Int.reduceLT, Int.reduceToNat, Int.reduceNeg, reduceCtorEq, Int.reduceEq, SF0, SF1, SF2, DHb0, DHb1, DHa0, DCg0, DCe0, DCe1, DCe2, DDb0, DBc0, DBc1, DDe0, DAlh0, DAlv0, DAlg0]
    refine acall_one EQ (by simp [freeL, AV.free]) rfl ?_
    simp (disch := omega) only [SX0, SX1, SX2, SX3, SX4, SX5, SX6, SX7, SX8, SU0, SY0, SY1, Nat.reduceAdd, Nat.reduceMul, Nat.reduceSub, Nat.reduceLeDiff, Nat.reduceEqDiff, Nat.reduceLT, Nat.reduceBEq, ↓reduceIte, Int.reduceLE, Int.reduceLT, Int.reduceToNat, Int.reduceNeg, reduceCtorEq, Int.reduceEq, SF0, SF1, SF2, DHb0, DHb1, DHa0, DCg0, DCe0, DCe1, DCe2, DDb0, DBc0, DBc1, DDe0, DAlh0, DAlv0, DAlg0]
    exact fin_val ⟨rfl, rfl⟩
  have hp := hpl fun h => h2 (by rw [h]; rfl)
  rw [if_pos hp] at hsl
  obtain ⟨hfl, hok⟩ := shRun_all hp ho
  have hsn := sheets_len hok
  generalize hA : (shRun k o).all = A at *
  subst hsl
  have hAl : A.length ≤ 7 := by rw [List.length_map] at hlen; exact hlen
  have hAn : A.length ≤ k.Ps.length := by have := hsn.1; rw [hfl] at this; omega
  have e0 := cntI_nil k.Ps.length
  repeat' first | simp (disch := omega) only [SX0, SX1, SX2, SX3, SX4, SX5, SX6, SX7, SX8, SU0, SY0, SY1, Nat.reduceAdd, Nat.reduceMul, Nat.reduceSub, Nat.reduceLeDiff, Nat.reduceEqDiff, Nat.reduceLT, Nat.reduceBEq, ↓reduceIte, Int.reduceLE, Int.reduceLT, Int.reduceToNat, Int.reduceNeg, reduceCtorEq, Int.reduceEq, SF0, SF1, SF2, DHb0, DHb1, DHa0, DCg0, DCe0, DCe1, DCe2, DDb0, DBc0, DBc1, DDe0, DAlh0, DAlv0, DAlg0] | refine req (by omega) ?_ | fail
  rw [← e0]
  with_reducible refine awp_loop_h (G := Nat) 6 91 (fun i => [(6, .val (.int .i64 i))]) (fun i => [.cells k.cs, .vec 1 (ints (cntI k.Ps.length (A.take i).flatten.flatten))]) (fun i => i ≤ A.length) (fun i => A.length - i) 0 (Nat.zero_le _) ?_ (fun i hi => ?_)
  · simp (disch := omega) only [SX0, SX1, SX2, SX3, SX4, SX5, SX6, SX7, SX8, SU0, SY0, SY1, Nat.reduceAdd, Nat.reduceMul, Nat.reduceSub, Nat.reduceLeDiff, Nat.reduceEqDiff, Nat.reduceLT, Nat.reduceBEq, ↓reduceIte, Int.reduceLE, Int.reduceLT, Int.reduceToNat, Int.reduceNeg, reduceCtorEq, Int.reduceEq, SF0, SF1, SF2, DHb0, DHb1, DHa0, DCg0, DCe0, DCe1, DCe2, DDb0, DBc0, DBc1, DDe0, DAlh0, DAlv0, DAlg0]
    (refine wk_le ?_ ?_ ?_; (focus (simp [W8, leTm, leAV, AV.under, underL, ints, Work.under]; done)); (focus (simp [leL, OB.under, underL, AV.under, ints, Work.under]; done)); (focus (simp; done)))
  refine sx_sound (bl := []) T_tt _ _ _ ?_
  simp (disch := omega) only [SX0, SX1, SX2, SX3, SX4, SX5, SX6, SX7, SX8, SU0, SY0, SY1, Nat.reduceAdd, Nat.reduceMul, Nat.reduceSub, Nat.reduceLeDiff, Nat.reduceEqDiff, Nat.reduceLT, Nat.reduceBEq, ↓reduceIte, Int.reduceLE, Int.reduceLT, Int.reduceToNat, Int.reduceNeg, reduceCtorEq, Int.reduceEq, SF0, SF1, SF2, DHb0, DHb1, DHa0, DCg0, DCe0, DCe1, DCe2, DDb0, DBc0, DBc1, DDe0, DAlh0, DAlv0, DAlg0, List.length_map]
  refine br_dec (fun h3 => ?_) (fun h3 => ?_)
  · obtain ⟨t, ht⟩ := get_lt (l := A) (i := i) (by omega)
    have htm := List.mem_of_getElem? ht
    have htl : t.flatten.length ≤ 24 := by
      have : A.flatten.flatten = (A.map List.flatten).flatten := by rw [List.flatten_flatten]
      have h4 := mem_flat_len (A := A.map List.flatten) (List.mem_map_of_mem (f := List.flatten) htm)
      rw [← this, hfl] at h4
      omega
    obtain ⟨hv, hst, hus⟩ := sheet_facts hp (hok t htm) htl
    have VP := validPlanI_c k (sheetP k t k.H) (by omega)
    rw [decide_eq_true hv] at VP
    have ST := stagesOf_c (sheetP k t k.H) hv.2.1
    have US := usedOfI_c k (sheetP k t k.H) (by omega)
    rw [hus] at US
    have enx : (A.take (i + 1)).flatten.flatten = (A.take i).flatten.flatten ++ t.flatten := by rw [List.take_add_one, ht]; simp
    have hcl := cntI_len k.Ps.length t.flatten
    have hcl0 := cntI_len k.Ps.length (A.take i).flatten.flatten
    simp (disch := omega) only [SX0, SX1, SX2, SX3, SX4, SX5, SX6, SX7, SX8, SU0, SY0, SY1, Nat.reduceAdd, Nat.reduceMul, Nat.reduceSub, Nat.reduceLeDiff, Nat.reduceEqDiff, Nat.reduceLT, Nat.reduceBEq, ↓reduceIte, Int.reduceLE, Int.reduceLT, Int.reduceToNat, Int.reduceNeg, reduceCtorEq, Int.reduceEq, SF0, SF1, SF2, DHb0, DHb1, DHa0, DCg0, DCe0, DCe1, DCe2, DDb0, DBc0, DBc1, DDe0, DAlh0, DAlv0, DAlg0]
    refine awp_drawA T_tt mixed (by decide +kernel) (by kernel_rfl) (by kernel_rfl) ?_
    repeat' first | simp (disch := omega) only [SX0, SX1, SX2, SX3, SX4, SX5, SX6, SX7, SX8, SU0, SY0, SY1, Nat.reduceAdd, Nat.reduceMul, Nat.reduceSub, Nat.reduceLeDiff, Nat.reduceEqDiff, Nat.reduceLT, Nat.reduceBEq, ↓reduceIte, Int.reduceLE, Int.reduceLT, Int.reduceToNat, Int.reduceNeg, reduceCtorEq, Int.reduceEq, SF0, SF1, SF2, DHb0, DHb1, DHa0, DCg0, DCe0, DCe1, DCe2, DDb0, DBc0, DBc1, DDe0, DAlh0, DAlv0, DAlg0, ht] | refine req (by omega) ?_ | fail
    refine qc_one VP (by simp [freeL, AV.free, Plan.free, Work.free]) ?_
    repeat' first | simp (disch := omega) only [SX0, SX1, SX2, SX3, SX4, SX5, SX6, SX7, SX8, SU0, SY0, SY1, Nat.reduceAdd, Nat.reduceMul, Nat.reduceSub, Nat.reduceLeDiff, Nat.reduceEqDiff, Nat.reduceLT, Nat.reduceBEq, ↓reduceIte, Int.reduceLE, Int.reduceLT, Int.reduceToNat, Int.reduceNeg, reduceCtorEq, Int.reduceEq, SF0, SF1, SF2, DHb0, DHb1, DHa0, DCg0, DCe0, DCe1, DCe2, DDb0, DBc0, DBc1, DDe0, DAlh0, DAlv0, DAlg0, ht] | refine req (by omega) ?_ | fail
    refine qc_one ST (by simp [freeL, AV.free, Plan.free]) ?_
    repeat' first | simp (disch := omega) only [SX0, SX1, SX2, SX3, SX4, SX5, SX6, SX7, SX8, SU0, SY0, SY1, Nat.reduceAdd, Nat.reduceMul, Nat.reduceSub, Nat.reduceLeDiff, Nat.reduceEqDiff, Nat.reduceLT, Nat.reduceBEq, ↓reduceIte, Int.reduceLE, Int.reduceLT, Int.reduceToNat, Int.reduceNeg, reduceCtorEq, Int.reduceEq, SF0, SF1, SF2, DHb0, DHb1, DHa0, DCg0, DCe0, DCe1, DCe2, DDb0, DBc0, DBc1, DDe0, DAlh0, DAlv0, DAlg0, ht] | refine req (by omega) ?_ | fail
    refine br_dec (fun h4 => by omega) (fun h4 => ?_)
    simp (disch := omega) only [SX0, SX1, SX2, SX3, SX4, SX5, SX6, SX7, SX8, SU0, SY0, SY1, Nat.reduceAdd, Nat.reduceMul, Nat.reduceSub, Nat.reduceLeDiff, Nat.reduceEqDiff, Nat.reduceLT, Nat.reduceBEq, ↓reduceIte, Int.reduceLE, Int.reduceLT, Int.reduceToNat, Int.reduceNeg, reduceCtorEq, Int.reduceEq, SF0, SF1, SF2, DHb0, DHb1, DHa0, DCg0, DCe0, DCe1, DCe2, DDb0, DBc0, DBc1, DDe0, DAlh0, DAlv0, DAlg0]
    refine awp_drawA T_tt mixed (by decide +kernel) (by kernel_rfl) (by kernel_rfl) ?_
    repeat' first | simp (disch := omega) only [SX0, SX1, SX2, SX3, SX4, SX5, SX6, SX7, SX8, SU0, SY0, SY1, Nat.reduceAdd, Nat.reduceMul, Nat.reduceSub, Nat.reduceLeDiff, Nat.reduceEqDiff, Nat.reduceLT, Nat.reduceBEq, ↓reduceIte, Int.reduceLE, Int.reduceLT, Int.reduceToNat, Int.reduceNeg, reduceCtorEq, Int.reduceEq, SF0, SF1, SF2, DHb0, DHb1, DHa0, DCg0, DCe0, DCe1, DCe2, DDb0, DBc0, DBc1, DDe0, DAlh0, DAlv0, DAlg0, ht] | refine req (by omega) ?_ | fail
    refine qc_one US (by simp [freeL, AV.free, Plan.free, Work.free]) ?_
    simp (disch := omega) only [SX0, SX1, SX2, SX3, SX4, SX5, SX6, SX7, SX8, SU0, SY0, SY1, Nat.reduceAdd, Nat.reduceMul, Nat.reduceSub, Nat.reduceLeDiff, Nat.reduceEqDiff, Nat.reduceLT, Nat.reduceBEq, ↓reduceIte, Int.reduceLE, Int.reduceLT, Int.reduceToNat, Int.reduceNeg, reduceCtorEq, Int.reduceEq, SF0, SF1, SF2, DHb0, DHb1, DHa0, DCg0, DCe0, DCe1, DCe2, DDb0, DBc0, DBc1, DDe0, DAlh0, DAlv0, DAlg0]
    rw [← mixI_zero k.Ps.length (A.take i).flatten.flatten t.flatten]
    with_reducible refine awp_loop_h (G := Nat) 8 89 (fun j => [(8, .val (.int .i64 j))]) (fun j => [.cells k.cs, .vec 1 (ints (mixI k.Ps.length (A.take i).flatten.flatten t.flatten j))]) (fun j => j ≤ k.Ps.length) (fun j => k.Ps.length - j) 0 (Nat.zero_le _) ?_ (fun j hj => ?_)
    · simp (disch := omega) only [SX0, SX1, SX2, SX3, SX4, SX5, SX6, SX7, SX8, SU0, SY0, SY1, Nat.reduceAdd, Nat.reduceMul, Nat.reduceSub, Nat.reduceLeDiff, Nat.reduceEqDiff, Nat.reduceLT, Nat.reduceBEq, ↓reduceIte, Int.reduceLE, Int.reduceLT, Int.reduceToNat, Int.reduceNeg, reduceCtorEq, Int.reduceEq, SF0, SF1, SF2, DHb0, DHb1, DHa0, DCg0, DCe0, DCe1, DCe2, DDb0, DBc0, DBc1, DDe0, DAlh0, DAlv0, DAlg0]
      (refine wk_le ?_ ?_ ?_; (focus (simp [W8, leTm, leAV, AV.under, underL, ints, Work.under]; done)); (focus (simp [leL, OB.under, underL, AV.under, ints, Work.under]; done)); (focus (simp; done)))
    refine sx_sound (bl := []) T_tt _ _ _ ?_
    simp (disch := omega) only [SX0, SX1, SX2, SX3, SX4, SX5, SX6, SX7, SX8, SU0, SY0, SY1, Nat.reduceAdd, Nat.reduceMul, Nat.reduceSub, Nat.reduceLeDiff, Nat.reduceEqDiff, Nat.reduceLT, Nat.reduceBEq, ↓reduceIte, Int.reduceLE, Int.reduceLT, Int.reduceToNat, Int.reduceNeg, reduceCtorEq, Int.reduceEq, SF0, SF1, SF2, DHb0, DHb1, DHa0, DCg0, DCe0, DCe1, DCe2, DDb0, DBc0, DBc1, DDe0, DAlh0, DAlv0, DAlg0]
    refine br_dec (fun h5 => ?_) (fun h5 => ?_)
    · have g1 := mixI_get (n := k.Ps.length) (a := (A.take i).flatten.flatten) (b := t.flatten) (j := j) (by omega)
      have g2 := cntI_get (n := k.Ps.length) (l := t.flatten) (j := j) (by omega)
      have s1 := mixI_set (n := k.Ps.length) (a := (A.take i).flatten.flatten) (b := t.flatten) (j := j) (by omega)
      have l1 := mixI_len k.Ps.length (A.take i).flatten.flatten t.flatten j
      have b1 := List.countP_le_length (p := fun y : Int => decide (y = (j : Int))) (l := t.flatten)
      have b2 := List.countP_le_length (p := fun y : Int => decide (y = (j : Int))) (l := (A.take i).flatten.flatten)
      have b3 : (A.take i).flatten.flatten.length ≤ 24 := by
        have e1 : A.flatten.flatten = (A.take i).flatten.flatten ++ (A.drop i).flatten.flatten := by rw [← List.flatten_append, ← List.flatten_append, List.take_append_drop]
        have e2 := congrArg List.length e1
        rw [hfl, List.length_append] at e2
        omega
      generalize List.countP (fun y : Int => decide (y = (j : Int))) t.flatten = c1 at *
      generalize List.countP (fun y : Int => decide (y = (j : Int))) (A.take i).flatten.flatten = c2 at *
      have s1' : (List.map (fun x => [AV.val (.int .i64 x)]) (mixI k.Ps.length (A.take i).flatten.flatten t.flatten j)).set j [AV.val (.int .i64 ((c2 : Int) + (c1 : Int)))] = ints (mixI k.Ps.length (A.take i).flatten.flatten t.flatten (j + 1)) := by rw [← s1]; simp [ints, List.map_set]
      simp (disch := omega) only [SX0, SX1, SX2, SX3, SX4, SX5, SX6, SX7, SX8, SU0, SY0, SY1, Nat.reduceAdd, Nat.reduceMul, Nat.reduceSub, Nat.reduceLeDiff, Nat.reduceEqDiff, Nat.reduceLT, Nat.reduceBEq, ↓reduceIte, Int.reduceLE, Int.reduceLT, Int.reduceToNat, Int.reduceNeg, reduceCtorEq, Int.reduceEq, SF0, SF1, SF2, DHb0, DHb1, DHa0, DCg0, DCe0, DCe1, DCe2, DDb0, DBc0, DBc1, DDe0, DAlh0, DAlv0, DAlg0]
      refine awp_draw (bl := []) T_tt mixed 12 (by decide) (by kernel_rfl) (.inr ⟨by kernel_rfl, by kernel_rfl⟩) (by kernel_rfl) ?_
      repeat' first | simp (disch := omega) only [SX0, SX1, SX2, SX3, SX4, SX5, SX6, SX7, SX8, SU0, SY0, SY1, Nat.reduceAdd, Nat.reduceMul, Nat.reduceSub, Nat.reduceLeDiff, Nat.reduceEqDiff, Nat.reduceLT, Nat.reduceBEq, ↓reduceIte, Int.reduceLE, Int.reduceLT, Int.reduceToNat, Int.reduceNeg, reduceCtorEq, Int.reduceEq, SF0, SF1, SF2, DHb0, DHb1, DHa0, DCg0, DCe0, DCe1, DCe2, DDb0, DBc0, DBc1, DDe0, DAlh0, DAlv0, DAlg0, g1, g2, s1'] | refine req (by omega) ?_ | fail
      refine ⟨j + 1, by omega, by omega, ?_⟩
      (refine wk_le ?_ ?_ ?_; (focus (simp [W8, leTm, leAV, AV.under, underL, ints, Work.under]; done)); (focus (simp [leL, OB.under, underL, AV.under, ints, Work.under]; done)); (focus (simp; done)))
    · have e : j = k.Ps.length := by omega
      subst e
      rw [mixI_all, ← enx]
      simp (disch := omega) only [SX0, SX1, SX2, SX3, SX4, SX5, SX6, SX7, SX8, SU0, SY0, SY1, Nat.reduceAdd, Nat.reduceMul, Nat.reduceSub, Nat.reduceLeDiff, Nat.reduceEqDiff, Nat.reduceLT, Nat.reduceBEq, ↓reduceIte, Int.reduceLE, Int.reduceLT, Int.reduceToNat, Int.reduceNeg, reduceCtorEq, Int.reduceEq, SF0, SF1, SF2, DHb0, DHb1, DHa0, DCg0, DCe0, DCe1, DCe2, DDb0, DBc0, DBc1, DDe0, DAlh0, DAlv0, DAlg0]
      refine ⟨i + 1, by omega, by omega, ?_⟩
      (refine wk_le ?_ ?_ ?_; (focus (simp [W8, leTm, leAV, AV.under, underL, ints, Work.under]; done)); (focus (simp [leL, OB.under, underL, AV.under, ints, Work.under]; done)); (focus (simp; done)))
  · have e : i = A.length := by omega
    subst e
    rw [List.take_length, hfl]
    have cl := cntI_len k.Ps.length o
    simp (disch := omega) only [SX0, SX1, SX2, SX3, SX4, SX5, SX6, SX7, SX8, SU0, SY0, SY1, Nat.reduceAdd, Nat.reduceMul, Nat.reduceSub, Nat.reduceLeDiff, Nat.reduceEqDiff, Nat.reduceLT, Nat.reduceBEq, ↓reduceIte, Int.reduceLE, Int.reduceLT, Int.reduceToNat, Int.reduceNeg, reduceCtorEq, Int.reduceEq, SF0, SF1, SF2, DHb0, DHb1, DHa0, DCg0, DCe0, DCe1, DCe2, DDb0, DBc0, DBc1, DDe0, DAlh0, DAlv0, DAlg0]
    with_reducible refine awp_loop_h (G := Nat) 9 88 (fun j => [(9, .val (.int .i64 j))]) (fun _ => [.cells k.cs, .vec 1 (ints (cntI k.Ps.length o))]) (fun j => j ≤ k.Ps.length) (fun j => k.Ps.length - j) 0 (Nat.zero_le _) ?_ (fun j hj => ?_)
    · simp (disch := omega) only [SX0, SX1, SX2, SX3, SX4, SX5, SX6, SX7, SX8, SU0, SY0, SY1, Nat.reduceAdd, Nat.reduceMul, Nat.reduceSub, Nat.reduceLeDiff, Nat.reduceEqDiff, Nat.reduceLT, Nat.reduceBEq, ↓reduceIte, Int.reduceLE, Int.reduceLT, Int.reduceToNat, Int.reduceNeg, reduceCtorEq, Int.reduceEq, SF0, SF1, SF2, DHb0, DHb1, DHa0, DCg0, DCe0, DCe1, DCe2, DDb0, DBc0, DBc1, DDe0, DAlh0, DAlv0, DAlg0]
      (refine wk_le ?_ ?_ ?_; (focus (simp [W8, leTm, leAV, AV.under, underL, ints, Work.under]; done)); (focus (simp [leL, OB.under, underL, AV.under, ints, Work.under]; done)); (focus (simp; done)))
    refine sx_sound (bl := []) T_tt _ _ _ ?_
    simp (disch := omega) only [SX0, SX1, SX2, SX3, SX4, SX5, SX6, SX7, SX8, SU0, SY0, SY1, Nat.reduceAdd, Nat.reduceMul, Nat.reduceSub, Nat.reduceLeDiff, Nat.reduceEqDiff, Nat.reduceLT, Nat.reduceBEq, ↓reduceIte, Int.reduceLE, Int.reduceLT, Int.reduceToNat, Int.reduceNeg, reduceCtorEq, Int.reduceEq, SF0, SF1, SF2, DHb0, DHb1, DHa0, DCg0, DCe0, DCe1, DCe2, DDb0, DBc0, DBc1, DDe0, DAlh0, DAlv0, DAlg0]
    refine br_dec (fun h5 => ?_) (fun h5 => ?_)
    · have g1 := cntI_get (n := k.Ps.length) (l := o) (j := j) (by omega)
      rw [ho.1.countP_eq, upTo_count (by omega)] at g1
      have g1' : (cntI k.Ps.length o)[j]? = some 1 := g1
      repeat' first | simp (disch := omega) only [SX0, SX1, SX2, SX3, SX4, SX5, SX6, SX7, SX8, SU0, SY0, SY1, Nat.reduceAdd, Nat.reduceMul, Nat.reduceSub, Nat.reduceLeDiff, Nat.reduceEqDiff, Nat.reduceLT, Nat.reduceBEq, ↓reduceIte, Int.reduceLE, Int.reduceLT, Int.reduceToNat, Int.reduceNeg, reduceCtorEq, Int.reduceEq, SF0, SF1, SF2, DHb0, DHb1, DHa0, DCg0, DCe0, DCe1, DCe2, DDb0, DBc0, DBc1, DDe0, DAlh0, DAlv0, DAlg0, g1'] | refine req (by omega) ?_ | fail
      refine ⟨j + 1, by omega, by omega, ?_⟩
      (refine wk_le ?_ ?_ ?_; (focus (simp [W8, leTm, leAV, AV.under, underL, ints, Work.under]; done)); (focus (simp [leL, OB.under, underL, AV.under, ints, Work.under]; done)); (focus (simp; done)))
    · repeat' first | simp (disch := omega) only [SX0, SX1, SX2, SX3, SX4, SX5, SX6, SX7, SX8, SU0, SY0, SY1, Nat.reduceAdd, Nat.reduceMul, Nat.reduceSub, Nat.reduceLeDiff, Nat.reduceEqDiff, Nat.reduceLT, Nat.reduceBEq, ↓reduceIte, Int.reduceLE, Int.reduceLT, Int.reduceToNat, Int.reduceNeg, reduceCtorEq, Int.reduceEq, SF0, SF1, SF2, DHb0, DHb1, DHa0, DCg0, DCe0, DCe1, DCe2, DDb0, DBc0, DBc1, DDe0, DAlh0, DAlv0, DAlg0, List.length_map] | refine req (by omega) ?_ | fail
      exact fin_val ⟨(vT (by omega)).symm, rfl⟩

end Go.Pc
