/- Orders: their lines; which orders are valid; their texts in the reference. -/
import Derived.Test.YtajkeegikligcaaDoorCpa
import Derived.Test.YtajkeegikligcaaDoorLa
set_option linter.unusedSimpArgs false
set_option linter.unusedVariables false
namespace Go.Pc
open Go Go.Proofs Go.Lib

deriving instance DecidableEq for Pane
theorem Pane.eqc (a b : Pane) : eqA [SK.int, SK.int, SK.bool, SK.int] a.cs b.cs = some (decide (a = b)) := by
  obtain ⟨x, y, w, h⟩ := a
  obtain ⟨x', y', w', h'⟩ := b
  simp [Pane.cs, eqA, Pane.mk.injEq, Bool.decide_and]
theorem DCqa0 : type_of% @Pane.eqc := @Pane.eqc

/-- A line of an order. -/
structure Ln where
  P : Pane
  N : Int
def Ln.cs (x : Ln) : List AV := [.val (.int .i64 x.P.W), .val (.int .i64 x.P.H), .val (.bool x.P.Tu), .val (.int .i64 x.P.Ki), .val (.int .i64 x.N)]
theorem Ln.len (x : Ln) : x.cs.length = 5 := rfl
theorem Ln.take (x : Ln) : x.cs.take 5 = x.cs := rfl
theorem Ln.take4 (x : Ln) : x.cs.take 4 = x.P.cs := rfl
theorem Ln.g0 (x : Ln) : x.cs[0]? = some (.val (.int .i64 x.P.W)) := rfl
theorem Ln.g1 (x : Ln) : x.cs[1]? = some (.val (.int .i64 x.P.H)) := rfl
theorem Ln.g2 (x : Ln) : x.cs[2]? = some (.val (.bool x.P.Tu)) := rfl
theorem Ln.g3 (x : Ln) : x.cs[3]? = some (.val (.int .i64 x.P.Ki)) := rfl
theorem Ln.g4 (x : Ln) : x.cs[4]? = some (.val (.int .i64 x.N)) := rfl
theorem Ln.one (x : Ln) : x.cs.all AV.one = true := rfl
theorem Ln.pure (x : Ln) : x.cs.all AV.pure = true := rfl
theorem Ln.free (x : Ln) : freeL x.cs = true := rfl
theorem Ln.filtd (f : Nat → Bool) (p : Ln) : filtL f p.cs = p.cs := (free_filt_aux f).2 _ p.free
theorem Ln.rend (f : Nat → Nat) (p : Ln) : renL f p.cs = p.cs := freeL_rend f p.free
theorem Ln.d4 (x : Ln) : (x.cs.drop 4)[0]? = some (.val (.int .i64 x.N)) := rfl
theorem DCqa1 : type_of% @Ln.d4 ∧ type_of% @Ln.rend ∧ type_of% @Ln.filtd ∧ type_of% @Ln.len ∧ type_of% @Ln.take ∧ type_of% @Ln.take4 ∧ type_of% @Ln.g0 ∧ type_of% @Ln.g1 ∧ type_of% @Ln.g2 ∧ type_of% @Ln.g3 ∧ type_of% @Ln.g4 ∧ type_of% @Ln.one ∧ type_of% @Ln.pure := ⟨@Ln.d4, @Ln.rend, @Ln.filtd, @Ln.len, @Ln.take, @Ln.take4, @Ln.g0, @Ln.g1, @Ln.g2, @Ln.g3, @Ln.g4, @Ln.one, @Ln.pure⟩

def zLn : List AV := [.val (.int .i64 0), .val (.int .i64 0), .val (.bool false), .val (.int .i64 0), .val (.int .i64 0)]
theorem zLn_len : zLn.length = 5 := rfl
theorem zLn_drop : zLn.drop 5 = [] := rfl
theorem DCqa2 : type_of% @zLn_len ∧ type_of% @zLn_drop := ⟨@zLn_len, @zLn_drop⟩

theorem e_eqLine : Enters Tryd.prog 37 := enters_of Tryd.func37 (by kernel_rfl) (by kernel_rfl)
theorem eqLine_c (q : Ln) : ACalls Tryd.prog 37 [.agg q.cs, .agg q.cs] [] [] (fun r L => r = .val (.bool true) ∧ L = []) := by
  refine acalls_tm T_tt Tryd.func37 rfl e_eqLine 14 rfl (W8 _ _ .any .any .any .any .any .any (W8 .any .any .any .any .any .any .any .any [])) rfl (rv := [.tmp 4]) rfl (sx_sound (bl := []) T_tt _ _ _ ?_)
  simp (disch := omega) only [SX0, SX1, SX2, SX3, SX4, SX5, SX6, SX7, SX8, SU0, SY0, SY1, Nat.reduceAdd, Nat.reduceMul, Nat.reduceSub, Nat.reduceLeDiff, Nat.reduceEqDiff, Nat.reduceLT, Nat.reduceBEq, ↓reduceIte, Int.reduceLE, Int.reduceLT, Int.reduceToNat, Int.reduceNeg, reduceCtorEq, Int.reduceEq, SF0, SF1, SF2, DCe0, DCe1, DCe2, DDb0, DBc0, DBc1, DLa0, DCg0, DCqa0, DCqa1, DCqa2]
  refine acall_one (eqPane_c q.P) rfl rfl ?_
  simp (disch := omega) only [SX0, SX1, SX2, SX3, SX4, SX5, SX6, SX7, SX8, SU0, SY0, SY1, Nat.reduceAdd, Nat.reduceMul, Nat.reduceSub, Nat.reduceLeDiff, Nat.reduceEqDiff, Nat.reduceLT, Nat.reduceBEq, ↓reduceIte, Int.reduceLE, Int.reduceLT, Int.reduceToNat, Int.reduceNeg, reduceCtorEq, Int.reduceEq, SF0, SF1, SF2, DCe0, DCe1, DCe2, DDb0, DBc0, DBc1, DLa0, DCg0, DCqa0, DCqa1, DCqa2]
  exact fin_val ⟨rfl, rfl⟩

theorem e_eqLineS : Enters Tryd.prog 15 := enters_of Tryd.func15 (by kernel_rfl) (by kernel_rfl)
set_option maxHeartbeats 1000000 in
theorem eqLineS_c (l : List Ln) (hl : l.length < 2 ^ 40) : ACalls Tryd.prog 15 [.sl (l.map Ln.cs), .sl (l.map Ln.cs)] [] [] (fun r L => r = .val (.bool true) ∧ L = []) := by
  refine acalls_tm T_tt Tryd.func15 rfl e_eqLineS 25 rfl (W8 _ _ .any .any .any .any .any .any (W8 .any .any .any .any .any .any .any .any (W8 .any .any .any .any .any .any .any .any [.any, .any, .any]))) rfl (rv := [.tmp 4]) rfl (sx_sound (bl := []) T_tt _ _ _ ?_)
  simp (disch := omega) only [SX0, SX1, SX2, SX3, SX4, SX5, SX6, SX7, SX8, SU0, SY0, SY1, Nat.reduceAdd, Nat.reduceMul, Nat.reduceSub, Nat.reduceLeDiff, Nat.reduceEqDiff, Nat.reduceLT, Nat.reduceBEq, ↓reduceIte, Int.reduceLE, Int.reduceLT, Int.reduceToNat, Int.reduceNeg, reduceCtorEq, Int.reduceEq, SF0, SF1, SF2, DCe0, DCe1, DCe2, DDb0, DBc0, DBc1, DLa0, DCg0, DCqa0, DCqa1, DCqa2]
  with_reducible refine awp_loop_h 5 22 (fun (i : Nat) => [(5, .val (.int .i64 i))]) (fun i => []) (fun i => i ≤ l.length) (fun i => l.length - i) 0 (Nat.zero_le _) ?_ (fun i hi => sx_sound (bl := []) T_tt _ _ _ ?_)
  · simp (disch := omega) only [SX0, SX1, SX2, SX3, SX4, SX5, SX6, SX7, SX8, SU0, SY0, SY1, Nat.reduceAdd, Nat.reduceMul, Nat.reduceSub, Nat.reduceLeDiff, Nat.reduceEqDiff, Nat.reduceLT, Nat.reduceBEq, ↓reduceIte, Int.reduceLE, Int.reduceLT, Int.reduceToNat, Int.reduceNeg, reduceCtorEq, Int.reduceEq, SF0, SF1, SF2, DCe0, DCe1, DCe2, DDb0, DBc0, DBc1, DLa0, DCg0, DCqa0, DCqa1, DCqa2]
    (refine wk_le ?_ ?_ ?_; (focus (simp [W8, leTm, leAV, AV.under, underL]; done)); (focus (simp [leL, OB.under, underL, AV.under]; done)); (focus (simp; done)))
  simp (disch := omega) only [SX0, SX1, SX2, SX3, SX4, SX5, SX6, SX7, SX8, SU0, SY0, SY1, Nat.reduceAdd, Nat.reduceMul, Nat.reduceSub, Nat.reduceLeDiff, Nat.reduceEqDiff, Nat.reduceLT, Nat.reduceBEq, ↓reduceIte, Int.reduceLE, Int.reduceLT, Int.reduceToNat, Int.reduceNeg, reduceCtorEq, Int.reduceEq, SF0, SF1, SF2, DCe0, DCe1, DCe2, DDb0, DBc0, DBc1, DLa0, DCg0, DCqa0, DCqa1, DCqa2]
  refine br_dec (fun h1 => ?_) (fun h1 => ?_)
  · obtain ⟨q, hq⟩ := get_lt (l := l) (i := i) (by omega)
    simp (disch := omega) only [SX0, SX1, SX2, SX3, SX4, SX5, SX6, SX7, SX8, SU0, SY0, SY1, Nat.reduceAdd, Nat.reduceMul, Nat.reduceSub, Nat.reduceLeDiff, Nat.reduceEqDiff, Nat.reduceLT, Nat.reduceBEq, ↓reduceIte, Int.reduceLE, Int.reduceLT, Int.reduceToNat, Int.reduceNeg, reduceCtorEq, Int.reduceEq, SF0, SF1, SF2, DCe0, DCe1, DCe2, DDb0, DBc0, DBc1, DLa0, DCg0, DCqa0, DCqa1, DCqa2]
    refine awp_drawA T_tt mixed (by decide +kernel) (by kernel_rfl) (by kernel_rfl) ?_
    simp (disch := omega) only [SX0, SX1, SX2, SX3, SX4, SX5, SX6, SX7, SX8, SU0, SY0, SY1, Nat.reduceAdd, Nat.reduceMul, Nat.reduceSub, Nat.reduceLeDiff, Nat.reduceEqDiff, Nat.reduceLT, Nat.reduceBEq, ↓reduceIte, Int.reduceLE, Int.reduceLT, Int.reduceToNat, Int.reduceNeg, reduceCtorEq, Int.reduceEq, SF0, SF1, SF2, DCe0, DCe1, DCe2, DDb0, DBc0, DBc1, DLa0, DCg0, DCqa0, DCqa1, DCqa2, hq]
    refine qc_one (eqLine_c q) rfl ?_
    simp (disch := omega) only [SX0, SX1, SX2, SX3, SX4, SX5, SX6, SX7, SX8, SU0, SY0, SY1, Nat.reduceAdd, Nat.reduceMul, Nat.reduceSub, Nat.reduceLeDiff, Nat.reduceEqDiff, Nat.reduceLT, Nat.reduceBEq, ↓reduceIte, Int.reduceLE, Int.reduceLT, Int.reduceToNat, Int.reduceNeg, reduceCtorEq, Int.reduceEq, SF0, SF1, SF2, DCe0, DCe1, DCe2, DDb0, DBc0, DBc1, DLa0, DCg0, DCqa0, DCqa1, DCqa2]
    refine ⟨i + 1, by omega, by omega, ?_⟩
    (refine wk_le ?_ ?_ ?_; (focus (simp [W8, leTm, leAV, AV.under, underL]; done)); (focus (simp [leL, OB.under, underL, AV.under]; done)); (focus (simp; done)))
  · simp (disch := omega) only [SX0, SX1, SX2, SX3, SX4, SX5, SX6, SX7, SX8, SU0, SY0, SY1, Nat.reduceAdd, Nat.reduceMul, Nat.reduceSub, Nat.reduceLeDiff, Nat.reduceEqDiff, Nat.reduceLT, Nat.reduceBEq, ↓reduceIte, Int.reduceLE, Int.reduceLT, Int.reduceToNat, Int.reduceNeg, reduceCtorEq, Int.reduceEq, SF0, SF1, SF2, DCe0, DCe1, DCe2, DDb0, DBc0, DBc1, DLa0, DCg0, DCqa0, DCqa1, DCqa2]
    exact fin_val ⟨rfl, rfl⟩

/-! ### Valid orders -/

def sumN (l : List Ln) : Int := (l.map Ln.N).sum
theorem sumN_nil : sumN [] = 0 := rfl
theorem sumN_next {l : List Ln} {i : Nat} {x : Ln} (h : l[i]? = some x) : sumN (l.take (i + 1)) = sumN (l.take i) + x.N := by
  unfold sumN; rw [List.take_add_one, h]; simp

/-- The order is valid: its lines are, no two have one pane, and there are not too many. -/
def ordOk (l : List Ln) : Prop := (∀ x ∈ l, x.P.ok ∧ 1 ≤ x.N) ∧ (l.map Ln.P).Nodup ∧ l.length ≤ 8 ∧ sumN l ≤ 24
instance (l : List Ln) : Decidable (ordOk l) := inferInstanceAs (Decidable (_ ∧ _))

theorem nodup_next {α : Type} [DecidableEq α] {l : List α} {i : Nat} {x : α} (h : l[i]? = some x) (hn : (l.take i).Nodup) (hx : x ∉ l.take i) : (l.take (i + 1)).Nodup := by
  rw [List.take_add_one, h]
  simp only [Option.toList_some, List.nodup_append, hn, List.nodup_cons, List.not_mem_nil, not_false_eq_true, List.nodup_nil, and_true, true_and, List.mem_singleton]
  rintro a ha b rfl rfl
  exact hx ha
theorem sumN_take_le {l : List Ln} (h : ∀ x ∈ l, 1 ≤ x.N) (i : Nat) : sumN (l.take i) ≤ sumN l := by
  have e : sumN l = sumN (l.take i) + sumN (l.drop i) := by unfold sumN; rw [← List.sum_append, ← List.map_append, List.take_append_drop]
  have : ∀ m : List Ln, (∀ x ∈ m, 1 ≤ x.N) → 0 ≤ sumN m := fun m => by
    induction m with
    | nil => intro _; simp [sumN]
    | cons x m ih => intro hm; have := ih (fun y hy => hm y (List.mem_cons_of_mem _ hy)); have := hm x List.mem_cons_self; unfold sumN at *; simp; omega
  have := this (l.drop i) fun x hx => h x (List.mem_of_mem_drop hx)
  omega

theorem e_findLine1 : Enters Tryd.prog 61 := enters_of Tryd.func61 (by kernel_rfl) (by kernel_rfl)
theorem findLine1_c (x : Ln) (p : Pane) : ACalls Tryd.prog 61 [.agg x.cs, .ptr 0 0] [.cells p.cs] [0] (fun r L => r = .val (.bool (decide (x.P = p))) ∧ L = [.cells p.cs]) := by
  refine acalls_tm T_tt Tryd.func61 rfl e_findLine1 6 rfl (W8 _ _ .any .any .any .any .any .any []) rfl (rv := [.tmp 3]) rfl (sx_sound (bl := []) T_tt _ _ _ ?_)
  simp (disch := omega) only [SX0, SX1, SX2, SX3, SX4, SX5, SX6, SX7, SX8, SU0, SY0, SY1, Nat.reduceAdd, Nat.reduceMul, Nat.reduceSub, Nat.reduceLeDiff, Nat.reduceEqDiff, Nat.reduceLT, Nat.reduceBEq, ↓reduceIte, Int.reduceLE, Int.reduceLT, Int.reduceToNat, Int.reduceNeg, reduceCtorEq, Int.reduceEq, SF0, SF1, SF2, DCe0, DCe1, DCe2, DDb0, DBc0, DBc1, DLa0, DCg0, DCqa0, DCqa1, DCqa2]
  exact fin_zero (.val (.bool (decide (x.P = p)))) (.cells p.cs) ⟨rfl, rfl⟩ rfl rfl (by simp) (by simp)

theorem Pane.und (n : Nat) (p : Pane) : underL n p.cs = true := by simp [Pane.cs, underL, AV.under]

theorem e_indexLine : Enters Tryd.prog 60 := enters_of Tryd.func60 (by kernel_rfl) (by kernel_rfl)
theorem indexLine_c (f : FuncId) (g : Ln → Bool) (p : Pane) (ks : List Ln) (hl : ks.length < 2 ^ 40) (h : ∀ q ∈ ks, ACalls Tryd.prog f [.agg q.cs, .ptr 0 0] [.cells p.cs] [0] (fun r L => r = .val (.bool (g q)) ∧ L = [.cells p.cs])) :
    ACalls Tryd.prog 60 [.sl (ks.map Ln.cs), .fn f [.ptr 0 0]] [.cells p.cs] [0] (fun r L => r = .val (.int .i64 (ixOf g ks)) ∧ L = [.cells p.cs]) := by
  refine acalls_tm T_tt Tryd.func60 rfl e_indexLine 17 rfl (W8 _ _ .any .any .any .any .any .any (W8 .any .any .any .any .any .any .any .any [.any, .any, .any])) rfl (rv := [.tmp 4]) rfl (sx_sound (bl := []) T_tt _ _ _ ?_)
  simp (disch := omega) only [SX0, SX1, SX2, SX3, SX4, SX5, SX6, SX7, SX8, SU0, SY0, SY1, Nat.reduceAdd, Nat.reduceMul, Nat.reduceSub, Nat.reduceLeDiff, Nat.reduceEqDiff, Nat.reduceLT, Nat.reduceBEq, ↓reduceIte, Int.reduceLE, Int.reduceLT, Int.reduceToNat, Int.reduceNeg, reduceCtorEq, Int.reduceEq, SF0, SF1, SF2, DCe0, DCe1, DCe2, DDb0, DBc0, DBc1, DLa0, DCg0, DCqa0, DCqa1, DCqa2]
  with_reducible refine awp_loop_h 4 15 (fun (i : Nat) => [(7, .val (.int .i64 ks.length)), (8, .val (.int .i64 i))]) (fun _ => [.cells p.cs]) (fun i => i ≤ ks.length ∧ ∀ p ∈ ks.take i, g p = false) (fun i => ks.length - i) 0 ⟨Nat.zero_le _, by simp⟩ ?_ (fun i hi => sx_sound (bl := []) T_tt _ _ _ ?_)
  · simp (disch := omega) only [SX0, SX1, SX2, SX3, SX4, SX5, SX6, SX7, SX8, SU0, SY0, SY1, Nat.reduceAdd, Nat.reduceMul, Nat.reduceSub, Nat.reduceLeDiff, Nat.reduceEqDiff, Nat.reduceLT, Nat.reduceBEq, ↓reduceIte, Int.reduceLE, Int.reduceLT, Int.reduceToNat, Int.reduceNeg, reduceCtorEq, Int.reduceEq, SF0, SF1, SF2, DCe0, DCe1, DCe2, DDb0, DBc0, DBc1, DLa0, DCg0, DCqa0, DCqa1, DCqa2]
    (refine wk_le ?_ ?_ ?_; (focus (simp [W8, leTm, leAV, AV.under, underL, Pane.und]; done)); (focus (simp [leL, OB.under, underL, AV.under, Pane.und]; done)); (focus (simp; done)))
  · simp (disch := omega) only [SX0, SX1, SX2, SX3, SX4, SX5, SX6, SX7, SX8, SU0, SY0, SY1, Nat.reduceAdd, Nat.reduceMul, Nat.reduceSub, Nat.reduceLeDiff, Nat.reduceEqDiff, Nat.reduceLT, Nat.reduceBEq, ↓reduceIte, Int.reduceLE, Int.reduceLT, Int.reduceToNat, Int.reduceNeg, reduceCtorEq, Int.reduceEq, SF0, SF1, SF2, DCe0, DCe1, DCe2, DDb0, DBc0, DBc1, DLa0, DCg0, DCqa0, DCqa1, DCqa2]
    refine br_dec (fun h1 => ?_) (fun h1 => ?_)
    · obtain ⟨q, hq⟩ := get_lt (l := ks) (i := i) (by omega)
      simp (disch := omega) only [SX0, SX1, SX2, SX3, SX4, SX5, SX6, SX7, SX8, SU0, SY0, SY1, Nat.reduceAdd, Nat.reduceMul, Nat.reduceSub, Nat.reduceLeDiff, Nat.reduceEqDiff, Nat.reduceLT, Nat.reduceBEq, ↓reduceIte, Int.reduceLE, Int.reduceLT, Int.reduceToNat, Int.reduceNeg, reduceCtorEq, Int.reduceEq, SF0, SF1, SF2, DCe0, DCe1, DCe2, DDb0, DBc0, DBc1, DLa0, DCg0, DCqa0, DCqa1, DCqa2, hq]
      refine acall_cl (h q (List.mem_of_getElem? hq)) [0] [] (by simp only [SX0, SX1, SX2, SX3, SX4, SX5, SX6, SX7, SX8, SU0, SY0, SY1, Nat.reduceAdd, Nat.reduceMul, Nat.reduceSub, Nat.reduceLeDiff, Nat.reduceEqDiff, Nat.reduceLT, Nat.reduceBEq, ↓reduceIte, Int.reduceLE, Int.reduceLT, Int.reduceToNat, Int.reduceNeg, reduceCtorEq, Int.reduceEq, SF0, SF1, SF2, DCe0, DCe1, DCe2, DDb0, DBc0, DBc1, DLa0, DCg0, DCqa0, DCqa1, DCqa2, SX0]) (by decide) (by decide) (by rfl) (by simp only [SX0, SX1, SX2, SX3, SX4, SX5, SX6, SX7, SX8, SU0, SY0, SY1, Nat.reduceAdd, Nat.reduceMul, Nat.reduceSub, Nat.reduceLeDiff, Nat.reduceEqDiff, Nat.reduceLT, Nat.reduceBEq, ↓reduceIte, Int.reduceLE, Int.reduceLT, Int.reduceToNat, Int.reduceNeg, reduceCtorEq, Int.reduceEq, SF0, SF1, SF2, DCe0, DCe1, DCe2, DDb0, DBc0, DBc1, DLa0, DCg0, DCqa0, DCqa1, DCqa2, SX0]) ?_
      rintro _ _ ⟨rfl, rfl⟩
      simp (disch := omega) only [SX0, SX1, SX2, SX3, SX4, SX5, SX6, SX7, SX8, SU0, SY0, SY1, Nat.reduceAdd, Nat.reduceMul, Nat.reduceSub, Nat.reduceLeDiff, Nat.reduceEqDiff, Nat.reduceLT, Nat.reduceBEq, ↓reduceIte, Int.reduceLE, Int.reduceLT, Int.reduceToNat, Int.reduceNeg, reduceCtorEq, Int.reduceEq, SF0, SF1, SF2, DCe0, DCe1, DCe2, DDb0, DBc0, DBc1, DLa0, DCg0, DCqa0, DCqa1, DCqa2]
      refine br_bool (fun h2 => ?_) (fun h2 => ?_)
      · simp (disch := omega) only [SX0, SX1, SX2, SX3, SX4, SX5, SX6, SX7, SX8, SU0, SY0, SY1, Nat.reduceAdd, Nat.reduceMul, Nat.reduceSub, Nat.reduceLeDiff, Nat.reduceEqDiff, Nat.reduceLT, Nat.reduceBEq, ↓reduceIte, Int.reduceLE, Int.reduceLT, Int.reduceToNat, Int.reduceNeg, reduceCtorEq, Int.reduceEq, SF0, SF1, SF2, DCe0, DCe1, DCe2, DDb0, DBc0, DBc1, DLa0, DCg0, DCqa0, DCqa1, DCqa2]
        exact fin_zero (.val (.int .i64 (ixOf g ks))) (.cells p.cs) ⟨rfl, rfl⟩ (by rw [ixOf_at hq hi.2 h2]; rfl) rfl (by simp) (by simp)
      · simp (disch := omega) only [SX0, SX1, SX2, SX3, SX4, SX5, SX6, SX7, SX8, SU0, SY0, SY1, Nat.reduceAdd, Nat.reduceMul, Nat.reduceSub, Nat.reduceLeDiff, Nat.reduceEqDiff, Nat.reduceLT, Nat.reduceBEq, ↓reduceIte, Int.reduceLE, Int.reduceLT, Int.reduceToNat, Int.reduceNeg, reduceCtorEq, Int.reduceEq, SF0, SF1, SF2, DCe0, DCe1, DCe2, DDb0, DBc0, DBc1, DLa0, DCg0, DCqa0, DCqa1, DCqa2]
        refine ⟨i + 1, ⟨by omega, take_next hq hi.2 h2⟩, by omega, ?_⟩
        (refine wk_le ?_ ?_ ?_; (focus (simp [W8, leTm, leAV, AV.under, underL, Pane.und]; done)); (focus (simp [leL, OB.under, underL, AV.under, Pane.und]; done)); (focus (simp; done)))
    · simp (disch := omega) only [SX0, SX1, SX2, SX3, SX4, SX5, SX6, SX7, SX8, SU0, SY0, SY1, Nat.reduceAdd, Nat.reduceMul, Nat.reduceSub, Nat.reduceLeDiff, Nat.reduceEqDiff, Nat.reduceLT, Nat.reduceBEq, ↓reduceIte, Int.reduceLE, Int.reduceLT, Int.reduceToNat, Int.reduceNeg, reduceCtorEq, Int.reduceEq, SF0, SF1, SF2, DCe0, DCe1, DCe2, DDb0, DBc0, DBc1, DLa0, DCg0, DCqa0, DCqa1, DCqa2]
      exact fin_zero (.val (.int .i64 (ixOf g ks))) (.cells p.cs) ⟨rfl, rfl⟩ (by rw [ixOf_none (take_all (by omega) hi.2)]; rfl) rfl (by simp) (by simp)

theorem e_findLine : Enters Tryd.prog 51 := enters_of Tryd.func51 (by kernel_rfl) (by kernel_rfl)
theorem findLine_c (ks : List Ln) (p : Pane) (hl : ks.length < 2 ^ 40) : ACalls Tryd.prog 51 [.sl (ks.map Ln.cs), .agg p.cs] [] [] (fun r L => r = .val (.int .i64 (ixOf (fun q : Ln => decide (q.P = p)) ks)) ∧ L = []) := by
  refine acalls_tm T_tt Tryd.func51 rfl e_findLine 6 rfl (W8 _ _ .any .any .any .any .any .any []) rfl (rv := [.tmp 4]) rfl (sx_sound (bl := []) T_tt _ _ _ ?_)
  simp (disch := omega) only [SX0, SX1, SX2, SX3, SX4, SX5, SX6, SX7, SX8, SU0, SY0, SY1, Nat.reduceAdd, Nat.reduceMul, Nat.reduceSub, Nat.reduceLeDiff, Nat.reduceEqDiff, Nat.reduceLT, Nat.reduceBEq, ↓reduceIte, Int.reduceLE, Int.reduceLT, Int.reduceToNat, Int.reduceNeg, reduceCtorEq, Int.reduceEq, SF0, SF1, SF2, DCe0, DCe1, DCe2, DDb0, DBc0, DBc1, DLa0, DCg0, DCqa0, DCqa1, DCqa2]
  refine acall_own (indexLine_c _ (fun q => decide (q.P = p)) p ks hl fun q _ => findLine1_c q p) [0] [] (by simp only [SX0, SX1, SX2, SX3, SX4, SX5, SX6, SX7, SX8, SU0, SY0, SY1, Nat.reduceAdd, Nat.reduceMul, Nat.reduceSub, Nat.reduceLeDiff, Nat.reduceEqDiff, Nat.reduceLT, Nat.reduceBEq, ↓reduceIte, Int.reduceLE, Int.reduceLT, Int.reduceToNat, Int.reduceNeg, reduceCtorEq, Int.reduceEq, SF0, SF1, SF2, DCe0, DCe1, DCe2, DDb0, DBc0, DBc1, DLa0, DCg0, DCqa0, DCqa1, DCqa2, SX0]) (by decide) (by decide) (by rfl) (by simp only [SX0, SX1, SX2, SX3, SX4, SX5, SX6, SX7, SX8, SU0, SY0, SY1, Nat.reduceAdd, Nat.reduceMul, Nat.reduceSub, Nat.reduceLeDiff, Nat.reduceEqDiff, Nat.reduceLT, Nat.reduceBEq, ↓reduceIte, Int.reduceLE, Int.reduceLT, Int.reduceToNat, Int.reduceNeg, reduceCtorEq, Int.reduceEq, SF0, SF1, SF2, DCe0, DCe1, DCe2, DDb0, DBc0, DBc1, DLa0, DCg0, DCqa0, DCqa1, DCqa2, SX0]) ?_
  rintro _ _ ⟨rfl, rfl⟩
  simp (disch := omega) only [SX0, SX1, SX2, SX3, SX4, SX5, SX6, SX7, SX8, SU0, SY0, SY1, Nat.reduceAdd, Nat.reduceMul, Nat.reduceSub, Nat.reduceLeDiff, Nat.reduceEqDiff, Nat.reduceLT, Nat.reduceBEq, ↓reduceIte, Int.reduceLE, Int.reduceLT, Int.reduceToNat, Int.reduceNeg, reduceCtorEq, Int.reduceEq, SF0, SF1, SF2, DCe0, DCe1, DCe2, DDb0, DBc0, DBc1, DLa0, DCg0, DCqa0, DCqa1, DCqa2]
  exact fin_val ⟨rfl, rfl⟩

theorem ixOf_here {α : Type} {g : α → Bool} {l : List α} {i : Nat} {x : α} (hx : l[i]? = some x) (hg : g x = true) : ixOf g l = i ↔ ∀ p ∈ l.take i, g p = false := by
  refine ⟨fun h => ?_, fun h => ixOf_at hx h hg⟩
  unfold ixOf at h
  cases hf : l.findIdx? g with
  | none => rw [hf] at h; simp at h
  | some j =>
    rw [hf] at h
    simp only at h
    have : j = i := by omega
    subst this
    obtain ⟨hj, _, h3⟩ := List.findIdx?_eq_some_iff_getElem.1 hf
    intro p hp
    obtain ⟨k, hk, rfl⟩ := List.getElem_of_mem hp
    rw [List.getElem_take]
    have hk' : k < j := by rw [List.length_take] at hk; omega
    simpa using h3 k hk'

theorem e_validOrderI : Enters Tryd.prog 33 := enters_of Tryd.func33 (by kernel_rfl) (by kernel_rfl)
set_option maxHeartbeats 2000000 in
theorem validOrderI_c (l : List Ln) (hl : l.length ≤ 1048576) (hr : ∀ x ∈ l, -9223372036854775808 ≤ x.N ∧ x.N ≤ 9223372036854775807) : ACalls Tryd.prog 33 [.sl (l.map Ln.cs)] [] [] (fun r L => r = .val (.bool (decide (ordOk l))) ∧ L = []) := by
  refine acalls_tm T_tt Tryd.func33 rfl e_validOrderI 41 rfl (W8 _ .any .any .any .any .any .any .any (W8 .any .any .any .any .any .any .any .any (W8 .any .any .any .any .any .any .any .any (W8 .any .any .any .any .any .any .any .any (W8 .any .any .any .any .any .any .any .any [.any, .any]))))) rfl (rv := [.tmp 2]) rfl (sx_sound (bl := []) T_tt _ _ _ ?_)
  simp (disch := omega) only [SX0, SX1, SX2, SX3, SX4, SX5, SX6, SX7, SX8, SU0, SY0, SY1, Nat.reduceAdd, Nat.reduceMul, Nat.reduceSub, Nat.reduceLeDiff, Nat.reduceEqDiff, Nat.reduceLT, Nat.reduceBEq, ↓reduceIte, Int.reduceLE, Int.reduceLT, Int.reduceToNat, Int.reduceNeg, reduceCtorEq, Int.reduceEq, SF0, SF1, SF2, DCe0, DCe1, DCe2, DDb0, DBc0, DBc1, DLa0, DCg0, DCqa0, DCqa1, DCqa2]
  refine br_dec (fun h1 => ?_) (fun h1 => ?_)
  · simp (disch := omega) only [SX0, SX1, SX2, SX3, SX4, SX5, SX6, SX7, SX8, SU0, SY0, SY1, Nat.reduceAdd, Nat.reduceMul, Nat.reduceSub, Nat.reduceLeDiff, Nat.reduceEqDiff, Nat.reduceLT, Nat.reduceBEq, ↓reduceIte, Int.reduceLE, Int.reduceLT, Int.reduceToNat, Int.reduceNeg, reduceCtorEq, Int.reduceEq, SF0, SF1, SF2, DCe0, DCe1, DCe2, DDb0, DBc0, DBc1, DLa0, DCg0, DCqa0, DCqa1, DCqa2]
    exact fin_val ⟨vF fun hh => by have := hh.2.2.1; omega, rfl⟩
  simp (disch := omega) only [SX0, SX1, SX2, SX3, SX4, SX5, SX6, SX7, SX8, SU0, SY0, SY1, Nat.reduceAdd, Nat.reduceMul, Nat.reduceSub, Nat.reduceLeDiff, Nat.reduceEqDiff, Nat.reduceLT, Nat.reduceBEq, ↓reduceIte, Int.reduceLE, Int.reduceLT, Int.reduceToNat, Int.reduceNeg, reduceCtorEq, Int.reduceEq, SF0, SF1, SF2, DCe0, DCe1, DCe2, DDb0, DBc0, DBc1, DLa0, DCg0, DCqa0, DCqa1, DCqa2]
  with_reducible refine awp_loop_h 3 39 (fun (i : Nat) => [(3, .val (.int .i64 (24 - sumN (l.take i)))), (9, .sl (l.map Ln.cs)), (10, .val (.int .i64 l.length)), (11, .val (.int .i64 i))]) (fun i => []) (fun i => i ≤ l.length ∧ (∀ x ∈ l.take i, x.P.ok ∧ 1 ≤ x.N) ∧ ((l.take i).map Ln.P).Nodup ∧ 0 ≤ sumN (l.take i) ∧ sumN (l.take i) ≤ 24) (fun i => l.length - i) 0 ⟨Nat.zero_le _, by simp, by simp, by simp [sumN], by simp [sumN]⟩ ?_ (fun i hi => sx_sound (bl := []) T_tt _ _ _ ?_)
  · simp (disch := omega) only [SX0, SX1, SX2, SX3, SX4, SX5, SX6, SX7, SX8, SU0, SY0, SY1, Nat.reduceAdd, Nat.reduceMul, Nat.reduceSub, Nat.reduceLeDiff, Nat.reduceEqDiff, Nat.reduceLT, Nat.reduceBEq, ↓reduceIte, Int.reduceLE, Int.reduceLT, Int.reduceToNat, Int.reduceNeg, reduceCtorEq, Int.reduceEq, SF0, SF1, SF2, DCe0, DCe1, DCe2, DDb0, DBc0, DBc1, DLa0, DCg0, DCqa0, DCqa1, DCqa2]
    (refine wk_le ?_ ?_ ?_; (focus (simp [W8, leTm, leAV, AV.under, underL, sumN_nil]; done)); (focus (simp [leL, OB.under, underL, AV.under, sumN_nil]; done)); (focus (simp; done)))
  simp (disch := omega) only [SX0, SX1, SX2, SX3, SX4, SX5, SX6, SX7, SX8, SU0, SY0, SY1, Nat.reduceAdd, Nat.reduceMul, Nat.reduceSub, Nat.reduceLeDiff, Nat.reduceEqDiff, Nat.reduceLT, Nat.reduceBEq, ↓reduceIte, Int.reduceLE, Int.reduceLT, Int.reduceToNat, Int.reduceNeg, reduceCtorEq, Int.reduceEq, SF0, SF1, SF2, DCe0, DCe1, DCe2, DDb0, DBc0, DBc1, DLa0, DCg0, DCqa0, DCqa1, DCqa2]
  obtain ⟨hi1, hi2, hi3, hi4, hi5⟩ := hi
  refine br_dec (fun h2 => ?_) (fun h2 => ?_)
  · obtain ⟨x, hx⟩ := get_lt (l := l) (i := i) (by omega)
    have hxm := List.mem_of_getElem? hx
    have hxr := hr x hxm
    simp (disch := omega) only [SX0, SX1, SX2, SX3, SX4, SX5, SX6, SX7, SX8, SU0, SY0, SY1, Nat.reduceAdd, Nat.reduceMul, Nat.reduceSub, Nat.reduceLeDiff, Nat.reduceEqDiff, Nat.reduceLT, Nat.reduceBEq, ↓reduceIte, Int.reduceLE, Int.reduceLT, Int.reduceToNat, Int.reduceNeg, reduceCtorEq, Int.reduceEq, SF0, SF1, SF2, DCe0, DCe1, DCe2, DDb0, DBc0, DBc1, DLa0, DCg0, DCqa0, DCqa1, DCqa2, hx]
    refine acall_one (validPaneI_c x.P) rfl rfl ?_
    simp (disch := omega) only [SX0, SX1, SX2, SX3, SX4, SX5, SX6, SX7, SX8, SU0, SY0, SY1, Nat.reduceAdd, Nat.reduceMul, Nat.reduceSub, Nat.reduceLeDiff, Nat.reduceEqDiff, Nat.reduceLT, Nat.reduceBEq, ↓reduceIte, Int.reduceLE, Int.reduceLT, Int.reduceToNat, Int.reduceNeg, reduceCtorEq, Int.reduceEq, SF0, SF1, SF2, DCe0, DCe1, DCe2, DDb0, DBc0, DBc1, DLa0, DCg0, DCqa0, DCqa1, DCqa2]
    refine br_ndec (fun h3 => ?_) (fun h3 => ?_)
    · simp (disch := omega) only [SX0, SX1, SX2, SX3, SX4, SX5, SX6, SX7, SX8, SU0, SY0, SY1, Nat.reduceAdd, Nat.reduceMul, Nat.reduceSub, Nat.reduceLeDiff, Nat.reduceEqDiff, Nat.reduceLT, Nat.reduceBEq, ↓reduceIte, Int.reduceLE, Int.reduceLT, Int.reduceToNat, Int.reduceNeg, reduceCtorEq, Int.reduceEq, SF0, SF1, SF2, DCe0, DCe1, DCe2, DDb0, DBc0, DBc1, DLa0, DCg0, DCqa0, DCqa1, DCqa2]
      exact fin_val ⟨vF fun hh => h3 (hh.1 x hxm).1, rfl⟩
    · simp (disch := omega) only [SX0, SX1, SX2, SX3, SX4, SX5, SX6, SX7, SX8, SU0, SY0, SY1, Nat.reduceAdd, Nat.reduceMul, Nat.reduceSub, Nat.reduceLeDiff, Nat.reduceEqDiff, Nat.reduceLT, Nat.reduceBEq, ↓reduceIte, Int.reduceLE, Int.reduceLT, Int.reduceToNat, Int.reduceNeg, reduceCtorEq, Int.reduceEq, SF0, SF1, SF2, DCe0, DCe1, DCe2, DDb0, DBc0, DBc1, DLa0, DCg0, DCqa0, DCqa1, DCqa2]
      refine acall_one (findLine_c l x.P (by omega)) rfl rfl ?_
      simp (disch := omega) only [SX0, SX1, SX2, SX3, SX4, SX5, SX6, SX7, SX8, SU0, SY0, SY1, Nat.reduceAdd, Nat.reduceMul, Nat.reduceSub, Nat.reduceLeDiff, Nat.reduceEqDiff, Nat.reduceLT, Nat.reduceBEq, ↓reduceIte, Int.reduceLE, Int.reduceLT, Int.reduceToNat, Int.reduceNeg, reduceCtorEq, Int.reduceEq, SF0, SF1, SF2, DCe0, DCe1, DCe2, DDb0, DBc0, DBc1, DLa0, DCg0, DCqa0, DCqa1, DCqa2]
      refine br_ndec (fun h4 => ?_) (fun h4 => ?_)
      · rw [ixOf_here hx (by simp)] at h4
        simp (disch := omega) only [SX0, SX1, SX2, SX3, SX4, SX5, SX6, SX7, SX8, SU0, SY0, SY1, Nat.reduceAdd, Nat.reduceMul, Nat.reduceSub, Nat.reduceLeDiff, Nat.reduceEqDiff, Nat.reduceLT, Nat.reduceBEq, ↓reduceIte, Int.reduceLE, Int.reduceLT, Int.reduceToNat, Int.reduceNeg, reduceCtorEq, Int.reduceEq, SF0, SF1, SF2, DCe0, DCe1, DCe2, DDb0, DBc0, DBc1, DLa0, DCg0, DCqa0, DCqa1, DCqa2]
        refine fin_val ⟨vF fun hh => h4 fun p hp => ?_, rfl⟩
        refine decide_eq_false fun e => ?_
        have hnd := hh.2.1
        rw [← List.take_append_drop i l, List.map_append, List.nodup_append] at hnd
        refine hnd.2.2 _ (List.mem_map_of_mem hp) x.P ?_ e
        exact List.mem_map_of_mem (List.mem_of_getElem? (i := 0) (by simpa using hx))
      · rw [ixOf_here hx (by simp)] at h4
        have hnot : x.P ∉ (l.take i).map Ln.P := fun hm => by
          obtain ⟨p, hp, e⟩ := List.mem_map.1 hm
          have := h4 p hp
          simp [e] at this
        have hs := sumN_next hx
        simp (disch := omega) only [SX0, SX1, SX2, SX3, SX4, SX5, SX6, SX7, SX8, SU0, SY0, SY1, Nat.reduceAdd, Nat.reduceMul, Nat.reduceSub, Nat.reduceLeDiff, Nat.reduceEqDiff, Nat.reduceLT, Nat.reduceBEq, ↓reduceIte, Int.reduceLE, Int.reduceLT, Int.reduceToNat, Int.reduceNeg, reduceCtorEq, Int.reduceEq, SF0, SF1, SF2, DCe0, DCe1, DCe2, DDb0, DBc0, DBc1, DLa0, DCg0, DCqa0, DCqa1, DCqa2]
        refine br_dec (fun h5 => ?_) (fun h5 => ?_)
        · simp (disch := omega) only [SX0, SX1, SX2, SX3, SX4, SX5, SX6, SX7, SX8, SU0, SY0, SY1, Nat.reduceAdd, Nat.reduceMul, Nat.reduceSub, Nat.reduceLeDiff, Nat.reduceEqDiff, Nat.reduceLT, Nat.reduceBEq, ↓reduceIte, Int.reduceLE, Int.reduceLT, Int.reduceToNat, Int.reduceNeg, reduceCtorEq, Int.reduceEq, SF0, SF1, SF2, DCe0, DCe1, DCe2, DDb0, DBc0, DBc1, DLa0, DCg0, DCqa0, DCqa1, DCqa2]
          exact fin_val ⟨vF fun hh => by have := (hh.1 x hxm).2; omega, rfl⟩
        · simp (disch := omega) only [SX0, SX1, SX2, SX3, SX4, SX5, SX6, SX7, SX8, SU0, SY0, SY1, Nat.reduceAdd, Nat.reduceMul, Nat.reduceSub, Nat.reduceLeDiff, Nat.reduceEqDiff, Nat.reduceLT, Nat.reduceBEq, ↓reduceIte, Int.reduceLE, Int.reduceLT, Int.reduceToNat, Int.reduceNeg, reduceCtorEq, Int.reduceEq, SF0, SF1, SF2, DCe0, DCe1, DCe2, DDb0, DBc0, DBc1, DLa0, DCg0, DCqa0, DCqa1, DCqa2]
          refine br_dec (fun h6 => ?_) (fun h6 => ?_)
          · simp (disch := omega) only [SX0, SX1, SX2, SX3, SX4, SX5, SX6, SX7, SX8, SU0, SY0, SY1, Nat.reduceAdd, Nat.reduceMul, Nat.reduceSub, Nat.reduceLeDiff, Nat.reduceEqDiff, Nat.reduceLT, Nat.reduceBEq, ↓reduceIte, Int.reduceLE, Int.reduceLT, Int.reduceToNat, Int.reduceNeg, reduceCtorEq, Int.reduceEq, SF0, SF1, SF2, DCe0, DCe1, DCe2, DDb0, DBc0, DBc1, DLa0, DCg0, DCqa0, DCqa1, DCqa2]
            exact fin_val ⟨vF fun hh => by have := hh.2.2.2; have := sumN_take_le (fun y hy => (hh.1 y hy).2) (i + 1); omega, rfl⟩
          · simp (disch := omega) only [SX0, SX1, SX2, SX3, SX4, SX5, SX6, SX7, SX8, SU0, SY0, SY1, Nat.reduceAdd, Nat.reduceMul, Nat.reduceSub, Nat.reduceLeDiff, Nat.reduceEqDiff, Nat.reduceLT, Nat.reduceBEq, ↓reduceIte, Int.reduceLE, Int.reduceLT, Int.reduceToNat, Int.reduceNeg, reduceCtorEq, Int.reduceEq, SF0, SF1, SF2, DCe0, DCe1, DCe2, DDb0, DBc0, DBc1, DLa0, DCg0, DCqa0, DCqa1, DCqa2]
            refine ⟨i + 1, ⟨by omega, ?_, ?_, by omega, by omega⟩, by omega, ?_⟩
            · exact take_next hx hi2 ⟨h3, by omega⟩
            · rw [List.map_take]
              exact nodup_next (show (l.map Ln.P)[i]? = some x.P by simp [hx]) (by rw [← List.map_take]; exact hi3) (by rw [← List.map_take]; exact hnot)
            · have hs2 : 24 - sumN (l.take i) - x.N = 24 - sumN (l.take (i + 1)) := by omega
              rw [hs2]
              (refine wk_le ?_ ?_ ?_; (focus (simp [W8, leTm, leAV, AV.under, underL]; done)); (focus (simp [leL, OB.under, underL, AV.under]; done)); (focus (simp; done)))
  · rw [List.take_of_length_le (by omega)] at hi2 hi3 hi4 hi5
    simp (disch := omega) only [SX0, SX1, SX2, SX3, SX4, SX5, SX6, SX7, SX8, SU0, SY0, SY1, Nat.reduceAdd, Nat.reduceMul, Nat.reduceSub, Nat.reduceLeDiff, Nat.reduceEqDiff, Nat.reduceLT, Nat.reduceBEq, ↓reduceIte, Int.reduceLE, Int.reduceLT, Int.reduceToNat, Int.reduceNeg, reduceCtorEq, Int.reduceEq, SF0, SF1, SF2, DCe0, DCe1, DCe2, DDb0, DBc0, DBc1, DLa0, DCg0, DCqa0, DCqa1, DCqa2]
    exact fin_val ⟨vT ⟨hi2, hi3, by omega, hi5⟩, rfl⟩
theorem e_validOrderS : Enters Tryd.prog 30 := enters_of Tryd.func30 (by kernel_rfl) (by kernel_rfl)
set_option maxRecDepth 8000 in
set_option maxHeartbeats 4000000 in
theorem validOrderS_c (l : List Ln) (hl : l.length ≤ 1048576) : ACalls Tryd.prog 30 [.sl (l.map Ln.cs)] [] [] (fun r L => r = .val (.bool (decide (ordOk l))) ∧ L = []) := by
  refine acalls_tm T_tt Tryd.func30 rfl e_validOrderS 57 rfl (W8 _ .any .any .any .any .any .any .any (W8 .any .any .any .any .any .any .any .any (W8 .any .any .any .any .any .any .any .any (W8 .any .any .any .any .any .any .any .any (W8 .any .any .any .any .any .any .any .any (W8 .any .any .any .any .any .any .any .any (W8 .any .any .any .any .any .any .any .any [.any, .any]))))))) rfl (rv := [.tmp 2]) rfl (sx_sound (bl := []) T_tt _ _ _ ?_)
  simp (disch := omega) only [SX0, SX1, SX2, SX3, SX4, SX5, SX6, SX7, SX8, SU0, SY0, SY1, Nat.reduceAdd, Nat.reduceMul, Nat.reduceSub, Nat.reduceLeDiff, Nat.reduceEqDiff, Nat.reduceLT, Nat.reduceBEq, ↓reduceIte, Int.reduceLE, Int.reduceLT, Int.reduceToNat, Int.reduceNeg, reduceCtorEq, Int.reduceEq, SF0, SF1, SF2, DCe0, DCe1, DCe2, DDb0, DBc0, DBc1, DLa0, DCg0, DCqa0, DCqa1, DCqa2]
  with_reducible refine awp_loop_h 3 55 (fun (i : Nat) => [(3, .val (.int .i64 (sumN (l.take i)))), (4, .val (.int .i64 i))]) (fun i => []) (fun i => i ≤ l.length ∧ (∀ x ∈ l.take i, x.P.ok ∧ 1 ≤ x.N) ∧ ((l.take i).map Ln.P).Nodup ∧ 0 ≤ sumN (l.take i) ∧ sumN (l.take i) ≤ 24 * i) (fun i => l.length - i) 0 ⟨Nat.zero_le _, by simp, by simp, by simp [sumN], by simp [sumN]⟩ ?_ (fun i hi => sx_sound (bl := []) T_tt _ _ _ ?_)
  · simp (disch := omega) only [SX0, SX1, SX2, SX3, SX4, SX5, SX6, SX7, SX8, SU0, SY0, SY1, Nat.reduceAdd, Nat.reduceMul, Nat.reduceSub, Nat.reduceLeDiff, Nat.reduceEqDiff, Nat.reduceLT, Nat.reduceBEq, ↓reduceIte, Int.reduceLE, Int.reduceLT, Int.reduceToNat, Int.reduceNeg, reduceCtorEq, Int.reduceEq, SF0, SF1, SF2, DCe0, DCe1, DCe2, DDb0, DBc0, DBc1, DLa0, DCg0, DCqa0, DCqa1, DCqa2]
    (refine wk_le ?_ ?_ ?_; (focus (simp [W8, leTm, leAV, AV.under, underL, sumN_nil]; done)); (focus (simp [leL, OB.under, underL, AV.under, sumN_nil]; done)); (focus (simp; done)))
  simp (disch := omega) only [SX0, SX1, SX2, SX3, SX4, SX5, SX6, SX7, SX8, SU0, SY0, SY1, Nat.reduceAdd, Nat.reduceMul, Nat.reduceSub, Nat.reduceLeDiff, Nat.reduceEqDiff, Nat.reduceLT, Nat.reduceBEq, ↓reduceIte, Int.reduceLE, Int.reduceLT, Int.reduceToNat, Int.reduceNeg, reduceCtorEq, Int.reduceEq, SF0, SF1, SF2, DCe0, DCe1, DCe2, DDb0, DBc0, DBc1, DLa0, DCg0, DCqa0, DCqa1, DCqa2]
  obtain ⟨hi1, hi2, hi3, hi4, hi5⟩ := hi
  refine br_dec (fun h2 => ?_) (fun h2 => ?_)
  · obtain ⟨x, hx⟩ := get_lt (l := l) (i := i) (by omega)
    have hxm := List.mem_of_getElem? hx
    have hs := sumN_next hx
    simp (disch := omega) only [SX0, SX1, SX2, SX3, SX4, SX5, SX6, SX7, SX8, SU0, SY0, SY1, Nat.reduceAdd, Nat.reduceMul, Nat.reduceSub, Nat.reduceLeDiff, Nat.reduceEqDiff, Nat.reduceLT, Nat.reduceBEq, ↓reduceIte, Int.reduceLE, Int.reduceLT, Int.reduceToNat, Int.reduceNeg, reduceCtorEq, Int.reduceEq, SF0, SF1, SF2, DCe0, DCe1, DCe2, DDb0, DBc0, DBc1, DLa0, DCg0, DCqa0, DCqa1, DCqa2, hx]
    refine acall_one (validPane_c x.P) rfl rfl ?_
    simp (disch := omega) only [SX0, SX1, SX2, SX3, SX4, SX5, SX6, SX7, SX8, SU0, SY0, SY1, Nat.reduceAdd, Nat.reduceMul, Nat.reduceSub, Nat.reduceLeDiff, Nat.reduceEqDiff, Nat.reduceLT, Nat.reduceBEq, ↓reduceIte, Int.reduceLE, Int.reduceLT, Int.reduceToNat, Int.reduceNeg, reduceCtorEq, Int.reduceEq, SF0, SF1, SF2, DCe0, DCe1, DCe2, DDb0, DBc0, DBc1, DLa0, DCg0, DCqa0, DCqa1, DCqa2]
    refine br_ndec (fun h3 => ?_) (fun h3 => ?_)
    · simp (disch := omega) only [SX0, SX1, SX2, SX3, SX4, SX5, SX6, SX7, SX8, SU0, SY0, SY1, Nat.reduceAdd, Nat.reduceMul, Nat.reduceSub, Nat.reduceLeDiff, Nat.reduceEqDiff, Nat.reduceLT, Nat.reduceBEq, ↓reduceIte, Int.reduceLE, Int.reduceLT, Int.reduceToNat, Int.reduceNeg, reduceCtorEq, Int.reduceEq, SF0, SF1, SF2, DCe0, DCe1, DCe2, DDb0, DBc0, DBc1, DLa0, DCg0, DCqa0, DCqa1, DCqa2]
      exact fin_val ⟨vF fun hh => h3 (hh.1 x hxm).1, rfl⟩
    · simp (disch := omega) only [SX0, SX1, SX2, SX3, SX4, SX5, SX6, SX7, SX8, SU0, SY0, SY1, Nat.reduceAdd, Nat.reduceMul, Nat.reduceSub, Nat.reduceLeDiff, Nat.reduceEqDiff, Nat.reduceLT, Nat.reduceBEq, ↓reduceIte, Int.reduceLE, Int.reduceLT, Int.reduceToNat, Int.reduceNeg, reduceCtorEq, Int.reduceEq, SF0, SF1, SF2, DCe0, DCe1, DCe2, DDb0, DBc0, DBc1, DLa0, DCg0, DCqa0, DCqa1, DCqa2, hx]
      refine acall_one (inRange_c _ _ _) rfl rfl ?_
      simp (disch := omega) only [SX0, SX1, SX2, SX3, SX4, SX5, SX6, SX7, SX8, SU0, SY0, SY1, Nat.reduceAdd, Nat.reduceMul, Nat.reduceSub, Nat.reduceLeDiff, Nat.reduceEqDiff, Nat.reduceLT, Nat.reduceBEq, ↓reduceIte, Int.reduceLE, Int.reduceLT, Int.reduceToNat, Int.reduceNeg, reduceCtorEq, Int.reduceEq, SF0, SF1, SF2, DCe0, DCe1, DCe2, DDb0, DBc0, DBc1, DLa0, DCg0, DCqa0, DCqa1, DCqa2]
      refine br_ndec (fun h4 => ?_) (fun h4 => ?_)
      · simp (disch := omega) only [SX0, SX1, SX2, SX3, SX4, SX5, SX6, SX7, SX8, SU0, SY0, SY1, Nat.reduceAdd, Nat.reduceMul, Nat.reduceSub, Nat.reduceLeDiff, Nat.reduceEqDiff, Nat.reduceLT, Nat.reduceBEq, ↓reduceIte, Int.reduceLE, Int.reduceLT, Int.reduceToNat, Int.reduceNeg, reduceCtorEq, Int.reduceEq, SF0, SF1, SF2, DCe0, DCe1, DCe2, DDb0, DBc0, DBc1, DLa0, DCg0, DCqa0, DCqa1, DCqa2]
        exact fin_val ⟨vF fun hh => by have := (hh.1 x hxm).2; have := hh.2.2.2; have := sumN_take_le (fun y hy => (hh.1 y hy).2) (i + 1); omega, rfl⟩
      · simp (disch := omega) only [SX0, SX1, SX2, SX3, SX4, SX5, SX6, SX7, SX8, SU0, SY0, SY1, Nat.reduceAdd, Nat.reduceMul, Nat.reduceSub, Nat.reduceLeDiff, Nat.reduceEqDiff, Nat.reduceLT, Nat.reduceBEq, ↓reduceIte, Int.reduceLE, Int.reduceLT, Int.reduceToNat, Int.reduceNeg, reduceCtorEq, Int.reduceEq, SF0, SF1, SF2, DCe0, DCe1, DCe2, DDb0, DBc0, DBc1, DLa0, DCg0, DCqa0, DCqa1, DCqa2]
        with_reducible refine awp_loop_h 3 55 (fun (k : Nat) => [(3, .val (.int .i64 (sumN (l.take i)))), (4, .val (.int .i64 i)), (5, .val (.int .i64 k))]) (fun i => []) (fun k => k ≤ i ∧ ∀ y ∈ l.take k, y.P ≠ x.P) (fun k => i - k) 0 ⟨Nat.zero_le _, by simp⟩ ?_ (fun k hk => sx_sound (bl := []) T_tt _ _ _ ?_)
        · simp (disch := omega) only [SX0, SX1, SX2, SX3, SX4, SX5, SX6, SX7, SX8, SU0, SY0, SY1, Nat.reduceAdd, Nat.reduceMul, Nat.reduceSub, Nat.reduceLeDiff, Nat.reduceEqDiff, Nat.reduceLT, Nat.reduceBEq, ↓reduceIte, Int.reduceLE, Int.reduceLT, Int.reduceToNat, Int.reduceNeg, reduceCtorEq, Int.reduceEq, SF0, SF1, SF2, DCe0, DCe1, DCe2, DDb0, DBc0, DBc1, DLa0, DCg0, DCqa0, DCqa1, DCqa2]
          (refine wk_le ?_ ?_ ?_; (focus (simp [W8, leTm, leAV, AV.under, underL]; done)); (focus (simp [leL, OB.under, underL, AV.under]; done)); (focus (simp; done)))
        · simp (disch := omega) only [SX0, SX1, SX2, SX3, SX4, SX5, SX6, SX7, SX8, SU0, SY0, SY1, Nat.reduceAdd, Nat.reduceMul, Nat.reduceSub, Nat.reduceLeDiff, Nat.reduceEqDiff, Nat.reduceLT, Nat.reduceBEq, ↓reduceIte, Int.reduceLE, Int.reduceLT, Int.reduceToNat, Int.reduceNeg, reduceCtorEq, Int.reduceEq, SF0, SF1, SF2, DCe0, DCe1, DCe2, DDb0, DBc0, DBc1, DLa0, DCg0, DCqa0, DCqa1, DCqa2]
          refine br_dec (fun h5 => ?_) (fun h5 => ?_)
          · obtain ⟨y, hy⟩ := get_lt (l := l) (i := k) (by omega)
            simp (disch := omega) only [SX0, SX1, SX2, SX3, SX4, SX5, SX6, SX7, SX8, SU0, SY0, SY1, Nat.reduceAdd, Nat.reduceMul, Nat.reduceSub, Nat.reduceLeDiff, Nat.reduceEqDiff, Nat.reduceLT, Nat.reduceBEq, ↓reduceIte, Int.reduceLE, Int.reduceLT, Int.reduceToNat, Int.reduceNeg, reduceCtorEq, Int.reduceEq, SF0, SF1, SF2, DCe0, DCe1, DCe2, DDb0, DBc0, DBc1, DLa0, DCg0, DCqa0, DCqa1, DCqa2]
            refine awp_drawA T_tt mixed (by decide +kernel) (by kernel_rfl) (by kernel_rfl) ?_
            simp (disch := omega) only [SX0, SX1, SX2, SX3, SX4, SX5, SX6, SX7, SX8, SU0, SY0, SY1, Nat.reduceAdd, Nat.reduceMul, Nat.reduceSub, Nat.reduceLeDiff, Nat.reduceEqDiff, Nat.reduceLT, Nat.reduceBEq, ↓reduceIte, Int.reduceLE, Int.reduceLT, Int.reduceToNat, Int.reduceNeg, reduceCtorEq, Int.reduceEq, SF0, SF1, SF2, DCe0, DCe1, DCe2, DDb0, DBc0, DBc1, DLa0, DCg0, DCqa0, DCqa1, DCqa2, hx, hy]
            refine br_dec (fun h6 => ?_) (fun h6 => ?_)
            · simp (disch := omega) only [SX0, SX1, SX2, SX3, SX4, SX5, SX6, SX7, SX8, SU0, SY0, SY1, Nat.reduceAdd, Nat.reduceMul, Nat.reduceSub, Nat.reduceLeDiff, Nat.reduceEqDiff, Nat.reduceLT, Nat.reduceBEq, ↓reduceIte, Int.reduceLE, Int.reduceLT, Int.reduceToNat, Int.reduceNeg, reduceCtorEq, Int.reduceEq, SF0, SF1, SF2, DCe0, DCe1, DCe2, DDb0, DBc0, DBc1, DLa0, DCg0, DCqa0, DCqa1, DCqa2]
              refine fin_val ⟨vF fun hh => ?_, rfl⟩
              have hnd := hh.2.1
              have hki : k < i := by omega
              have hy' : (l.take i)[k]? = some y := by rw [List.getElem?_take_of_lt hki]; exact hy
              rw [← List.take_append_drop i l, List.map_append, List.nodup_append] at hnd
              exact hnd.2.2 _ (List.mem_map_of_mem (List.mem_of_getElem? hy')) x.P (List.mem_map_of_mem (List.mem_of_getElem? (i := 0) (by simpa using hx))) h6
            · simp (disch := omega) only [SX0, SX1, SX2, SX3, SX4, SX5, SX6, SX7, SX8, SU0, SY0, SY1, Nat.reduceAdd, Nat.reduceMul, Nat.reduceSub, Nat.reduceLeDiff, Nat.reduceEqDiff, Nat.reduceLT, Nat.reduceBEq, ↓reduceIte, Int.reduceLE, Int.reduceLT, Int.reduceToNat, Int.reduceNeg, reduceCtorEq, Int.reduceEq, SF0, SF1, SF2, DCe0, DCe1, DCe2, DDb0, DBc0, DBc1, DLa0, DCg0, DCqa0, DCqa1, DCqa2]
              refine ⟨k + 1, ⟨by omega, take_next hy hk.2 h6⟩, by omega, ?_⟩
              (refine wk_le ?_ ?_ ?_; (focus (simp [W8, leTm, leAV, AV.under, underL]; done)); (focus (simp [leL, OB.under, underL, AV.under]; done)); (focus (simp; done)))
          · have hki : k = i := by omega
            subst hki
            have hnot : x.P ∉ (l.take k).map Ln.P := fun hm => by
              obtain ⟨p, hp, e⟩ := List.mem_map.1 hm
              exact hk.2 p hp e
            simp (disch := omega) only [SX0, SX1, SX2, SX3, SX4, SX5, SX6, SX7, SX8, SU0, SY0, SY1, Nat.reduceAdd, Nat.reduceMul, Nat.reduceSub, Nat.reduceLeDiff, Nat.reduceEqDiff, Nat.reduceLT, Nat.reduceBEq, ↓reduceIte, Int.reduceLE, Int.reduceLT, Int.reduceToNat, Int.reduceNeg, reduceCtorEq, Int.reduceEq, SF0, SF1, SF2, DCe0, DCe1, DCe2, DDb0, DBc0, DBc1, DLa0, DCg0, DCqa0, DCqa1, DCqa2, hx]
            refine ⟨k + 1, ⟨by omega, take_next hx hi2 ⟨h3, by omega⟩, ?_, by omega, by omega⟩, by omega, ?_⟩
            · rw [List.map_take]
              exact nodup_next (show (l.map Ln.P)[k]? = some x.P by simp [hx]) (by rw [← List.map_take]; exact hi3) (by rw [← List.map_take]; exact hnot)
            · rw [← hs]
              (refine wk_le ?_ ?_ ?_; (focus (simp [W8, leTm, leAV, AV.under, underL]; done)); (focus (simp [leL, OB.under, underL, AV.under]; done)); (focus (simp; done)))
  · rw [List.take_of_length_le (by omega)] at hi2 hi3 hi4 hi5
    rw [List.take_of_length_le (by omega)]
    simp (disch := omega) only [SX0, SX1, SX2, SX3, SX4, SX5, SX6, SX7, SX8, SU0, SY0, SY1, Nat.reduceAdd, Nat.reduceMul, Nat.reduceSub, Nat.reduceLeDiff, Nat.reduceEqDiff, Nat.reduceLT, Nat.reduceBEq, ↓reduceIte, Int.reduceLE, Int.reduceLT, Int.reduceToNat, Int.reduceNeg, reduceCtorEq, Int.reduceEq, SF0, SF1, SF2, DCe0, DCe1, DCe2, DDb0, DBc0, DBc1, DLa0, DCg0, DCqa0, DCqa1, DCqa2]
    refine br_dec (fun h3 => ?_) (fun h3 => ?_)
    · simp (disch := omega) only [SX0, SX1, SX2, SX3, SX4, SX5, SX6, SX7, SX8, SU0, SY0, SY1, Nat.reduceAdd, Nat.reduceMul, Nat.reduceSub, Nat.reduceLeDiff, Nat.reduceEqDiff, Nat.reduceLT, Nat.reduceBEq, ↓reduceIte, Int.reduceLE, Int.reduceLT, Int.reduceToNat, Int.reduceNeg, reduceCtorEq, Int.reduceEq, SF0, SF1, SF2, DCe0, DCe1, DCe2, DDb0, DBc0, DBc1, DLa0, DCg0, DCqa0, DCqa1, DCqa2]
      exact fin_val ⟨vb ⟨fun h => ⟨hi2, hi3, by omega, h⟩, fun h => h.2.2.2⟩, rfl⟩
    · simp (disch := omega) only [SX0, SX1, SX2, SX3, SX4, SX5, SX6, SX7, SX8, SU0, SY0, SY1, Nat.reduceAdd, Nat.reduceMul, Nat.reduceSub, Nat.reduceLeDiff, Nat.reduceEqDiff, Nat.reduceLT, Nat.reduceBEq, ↓reduceIte, Int.reduceLE, Int.reduceLT, Int.reduceToNat, Int.reduceNeg, reduceCtorEq, Int.reduceEq, SF0, SF1, SF2, DCe0, DCe1, DCe2, DDb0, DBc0, DBc1, DLa0, DCg0, DCqa0, DCqa1, DCqa2]
      exact fin_val ⟨vF fun hh => by have := hh.2.2.1; omega, rfl⟩
end Go.Pc
