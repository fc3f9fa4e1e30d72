/- Rows of panes on sheets: the program's plans. -/
import Derived.Test.YtkcpcmobmalijaaBse
set_option linter.unusedSimpArgs false
set_option linter.unusedVariables false
namespace Go.Pc
open Go Go.Proofs

def fitsW (k : Work) (q : Pane) : Prop := q.Tu = false ∧ q.W ≤ k.W ∧ q.H ≤ k.H
instance (k : Work) (q : Pane) : Decidable (fitsW k q) := inferInstanceAs (Decidable (_ ∧ _))
theorem e_plainWorkI : Enters Try.prog 79 := enters_of Try.func79 (by kernel_rfl) (by kernel_rfl)
set_option maxHeartbeats 2000000 in
theorem plainWorkI_c (k : Work) (hk : k.Ps.length < 2 ^ 40) : ACalls Try.prog 79 [.agg k.cs] [] [] (fun r L => r = .val (.bool (decide (plainW k))) ∧ L = []) := by
  refine acalls_tm T_tt Try.func79 rfl e_plainWorkI 31 rfl (W8 _ .any .any .any .any .any .any .any (W8 .any .any .any .any .any .any .any .any (W8 .any .any .any .any .any .any .any .any (W8 .any .any .any .any .any .any .any .any [])))) rfl (rv := [.tmp 2]) rfl (sx_sound (bl := []) T_tt _ _ _ ?_)
  simp (disch := omega) only [SX0, SX1, SX2, SX3, SX4, SX5, SX6, SX7, SX8, SU0, SY0, SY1, Nat.reduceAdd, Nat.reduceMul, Nat.reduceSub, Nat.reduceLeDiff, Nat.reduceEqDiff, Nat.reduceLT, Nat.reduceBEq, ↓reduceIte, Int.reduceLE, Int.reduceLT, Int.reduceToNat, Int.reduceNeg, reduceCtorEq, Int.reduceEq, SF0, SF1, SF2, DHb0, DHb1, DHa0, DCg0, DCe0, DCe1, DCe2, DDb0, DBc0, DBc1, DDe0, DAlh0, DAlv0, DBtc0]
  refine acall_one (validWorkI_c k hk) (by simp [freeL, AV.free, Work.free]) rfl ?_
  by_cases hok : k.ok
  · simp (disch := omega) only [SX0, SX1, SX2, SX3, SX4, SX5, SX6, SX7, SX8, SU0, SY0, SY1, Nat.reduceAdd, Nat.reduceMul, Nat.reduceSub, Nat.reduceLeDiff, Nat.reduceEqDiff, Nat.reduceLT, Nat.reduceBEq, ↓reduceIte, Int.reduceLE, Int.reduceLT, Int.reduceToNat, Int.reduceNeg, reduceCtorEq, Int.reduceEq, SF0, SF1, SF2, DHb0, DHb1, DHa0, DCg0, DCe0, DCe1, DCe2, DDb0, DBc0, DBc1, DDe0, DAlh0, DAlv0, DBtc0, hok, decide_true, Bool.not_true]
    with_reducible refine awp_loop_h (G := Nat) 4 28 (fun i => [(9, .sl (k.Ps.map Pane.cs)), (10, .val (.int .i64 k.Ps.length)), (11, .val (.int .i64 i))]) (fun _ => [.cells k.cs]) (fun i => i ≤ k.Ps.length ∧ ∀ q ∈ k.Ps.take i, fitsW k q) (fun i => k.Ps.length - i) 0 ⟨Nat.zero_le _, by simp⟩ ?_ (fun i hi => sx_sound (bl := []) T_tt _ _ _ ?_)
    · simp (disch := omega) only [SX0, SX1, SX2, SX3, SX4, SX5, SX6, SX7, SX8, SU0, SY0, SY1, Nat.reduceAdd, Nat.reduceMul, Nat.reduceSub, Nat.reduceLeDiff, Nat.reduceEqDiff, Nat.reduceLT, Nat.reduceBEq, ↓reduceIte, Int.reduceLE, Int.reduceLT, Int.reduceToNat, Int.reduceNeg, reduceCtorEq, Int.reduceEq, SF0, SF1, SF2, DHb0, DHb1, DHa0, DCg0, DCe0, DCe1, DCe2, DDb0, DBc0, DBc1, DDe0, DAlh0, DAlv0, DBtc0]
      (refine wk_le ?_ ?_ ?_; (focus (simp [W8, leTm, leAV, AV.under, underL, Work.under]; done)); (focus (simp [leL, OB.under, underL, AV.under, Work.under]; done)); (focus (simp; done)))
    simp (disch := omega) only [SX0, SX1, SX2, SX3, SX4, SX5, SX6, SX7, SX8, SU0, SY0, SY1, Nat.reduceAdd, Nat.reduceMul, Nat.reduceSub, Nat.reduceLeDiff, Nat.reduceEqDiff, Nat.reduceLT, Nat.reduceBEq, ↓reduceIte, Int.reduceLE, Int.reduceLT, Int.reduceToNat, Int.reduceNeg, reduceCtorEq, Int.reduceEq, SF0, SF1, SF2, DHb0, DHb1, DHa0, DCg0, DCe0, DCe1, DCe2, DDb0, DBc0, DBc1, DDe0, DAlh0, DAlv0, DBtc0]
    refine br_dec (fun h1 => ?_) (fun h1 => ?_)
    · obtain ⟨q, hq⟩ := get_lt (l := k.Ps) (i := i) (by omega)
      have no : ¬ fitsW k q → ¬ plainW k := fun h hp => h (hp.2 q (List.mem_of_getElem? hq))
      repeat' first | with_reducible refine fin_val ⟨?_, rfl⟩ | with_reducible refine br_dec (fun hb => ?_) (fun hb => ?_) | with_reducible refine br_ndec (fun hb => ?_) (fun hb => ?_) | with_reducible refine br_bool (fun hb => ?_) (fun hb => ?_) | with_reducible refine pk_dec (fun hb => ?_) (fun hb => ?_) | with_reducible refine pk_ndec (fun hb => ?_) (fun hb => ?_) | with_reducible refine awp_drawA T_tt mixed (by decide +kernel) (by kernel_rfl) (by kernel_rfl) ?_ | simp (disch := omega) only [SX0, SX1, SX2, SX3, SX4, SX5, SX6, SX7, SX8, SU0, SY0, SY1, Nat.reduceAdd, Nat.reduceMul, Nat.reduceSub, Nat.reduceLeDiff, Nat.reduceEqDiff, Nat.reduceLT, Nat.reduceBEq, ↓reduceIte, Int.reduceLE, Int.reduceLT, Int.reduceToNat, Int.reduceNeg, reduceCtorEq, Int.reduceEq, SF0, SF1, SF2, DHb0, DHb1, DHa0, DCg0, DCe0, DCe1, DCe2, DDb0, DBc0, DBc1, DDe0, DAlh0, DAlv0, DBtc0, hq, Pane.cs]
      all_goals first
        | exact vF (no fun hh => by unfold fitsW at hh; simp_all <;> omega)
        | (refine ⟨i + 1, ⟨by omega, take_next hq hi.2 ?_⟩, by omega, ?_⟩
           · exact ⟨by simp_all, by omega, by omega⟩
           · (refine wk_le ?_ ?_ ?_; (focus (simp [W8, leTm, leAV, AV.under, underL, Work.under]; done)); (focus (simp [leL, OB.under, underL, AV.under, Work.under]; done)); (focus (simp; done))))
    · simp (disch := omega) only [SX0, SX1, SX2, SX3, SX4, SX5, SX6, SX7, SX8, SU0, SY0, SY1, Nat.reduceAdd, Nat.reduceMul, Nat.reduceSub, Nat.reduceLeDiff, Nat.reduceEqDiff, Nat.reduceLT, Nat.reduceBEq, ↓reduceIte, Int.reduceLE, Int.reduceLT, Int.reduceToNat, Int.reduceNeg, reduceCtorEq, Int.reduceEq, SF0, SF1, SF2, DHb0, DHb1, DHa0, DCg0, DCe0, DCe1, DCe2, DDb0, DBc0, DBc1, DDe0, DAlh0, DAlv0, DBtc0]
      refine fin_val ⟨vT ⟨hok, take_all (by omega) hi.2⟩, rfl⟩
  · simp (disch := omega) only [SX0, SX1, SX2, SX3, SX4, SX5, SX6, SX7, SX8, SU0, SY0, SY1, Nat.reduceAdd, Nat.reduceMul, Nat.reduceSub, Nat.reduceLeDiff, Nat.reduceEqDiff, Nat.reduceLT, Nat.reduceBEq, ↓reduceIte, Int.reduceLE, Int.reduceLT, Int.reduceToNat, Int.reduceNeg, reduceCtorEq, Int.reduceEq, SF0, SF1, SF2, DHb0, DHb1, DHa0, DCg0, DCe0, DCe1, DCe2, DDb0, DBc0, DBc1, DDe0, DAlh0, DAlv0, DBtc0, hok, decide_false, Bool.not_false]
    exact fin_val ⟨vF fun hh => hok hh.1, rfl⟩

theorem flat_len {α : Type} {A : List (List α)} (h : ∀ r ∈ A, r ≠ []) : A.length ≤ A.flatten.length := by
  induction A with
  | nil => simp
  | cons r A ih =>
    have h1 := ih fun x hx => h x (by simp [hx])
    have h2 := List.length_pos_iff.2 (h r (by simp))
    rw [List.flatten_cons, List.length_append, List.length_cons]
    omega
theorem mem_flat_len {α : Type} {A : List (List α)} {r : List α} (h : r ∈ A) : r.length ≤ A.flatten.length := by
  induction A with
  | nil => cases h
  | cons x A ih =>
    rw [List.flatten_cons, List.length_append]
    rcases List.mem_cons.1 h with rfl | h
    · omega
    · have := ih h; omega
theorem sheets_len {k : Work} {A : List (List (List Int))} (h : ∀ t ∈ A, SheetOk k t) : A.length ≤ A.flatten.flatten.length ∧ ∀ t ∈ A, t.length ≤ A.flatten.flatten.length ∧ ∀ r ∈ t, r.length ≤ A.flatten.flatten.length := by
  have hr : ∀ r ∈ A.flatten, r ≠ [] := fun r hr => by
    obtain ⟨t, ht, hrt⟩ := List.mem_flatten.1 hr
    exact ((h t ht).rows r hrt).ne
  have h1 := flat_len (A := A) fun t ht => (h t ht).ne
  have h2 := flat_len hr
  refine ⟨by omega, fun t ht => ⟨?_, fun r hrt => mem_flat_len (List.mem_flatten.2 ⟨t, ht, hrt⟩)⟩⟩
  have := mem_flat_len ht
  omega

def shelfPlansP (k : Work) (o : List Int) : List Plan := (shRun k o).all.map fun t => sheetP k t k.H

theorem e_shelfPlansI : Enters Try.prog 31 := enters_of Try.func31 (by kernel_rfl) (by kernel_rfl)
set_option maxHeartbeats 2000000 in
theorem shelfPlansI_c (k : Work) (o : List Int) (hp : plainW k) (ho : OrdS k o) (hn : k.Ps.length < 40) : ACalls Try.prog 31 [.agg k.cs] [] [] (fun r L => r = .sl ((shelfPlansP k o).map Plan.cs) ∧ L = []) := by
  have S := shelvesI_c k o hp ho hn
  have hall := (shRun_all hp ho).2
  have hlen := sheets_len hall
  rw [(shRun_all hp ho).1, ho.len] at hlen
  have hkw := hp.1
  unfold Work.ok at hkw
  unfold shelfPlansP
  generalize (shRun k o).all = t at *
  refine acalls_tm T_tt Try.func31 rfl e_shelfPlansI 25 rfl (W8 _ .any .any .any .any .any .any .any (W8 .any .any .any .any .any .any .any .any (W8 .any .any .any .any .any .any .any .any [.any, .any]))) rfl (rv := [.tmp 2]) rfl (sx_sound (bl := []) T_tt _ _ _ ?_)
  simp (disch := omega) only [SX0, SX1, SX2, SX3, SX4, SX5, SX6, SX7, SX8, SU0, SY0, SY1, Nat.reduceAdd, Nat.reduceMul, Nat.reduceSub, Nat.reduceLeDiff, Nat.reduceEqDiff, Nat.reduceLT, Nat.reduceBEq, ↓reduceIte, Int.reduceLE, Int.reduceLT, Int.reduceToNat, Int.reduceNeg, reduceCtorEq, Int.reduceEq, SF0, SF1, SF2, DHb0, DHb1, DHa0, DCg0, DCe0, DCe1, DCe2, DDb0, DBc0, DBc1, DDe0, DAlh0, DAlv0, DBtc0]
  refine acall_one (plainWorkI_c k (by omega)) (by simp [freeL, AV.free, Work.free]) rfl ?_
  simp (disch := omega) only [SX0, SX1, SX2, SX3, SX4, SX5, SX6, SX7, SX8, SU0, SY0, SY1, Nat.reduceAdd, Nat.reduceMul, Nat.reduceSub, Nat.reduceLeDiff, Nat.reduceEqDiff, Nat.reduceLT, Nat.reduceBEq, ↓reduceIte, Int.reduceLE, Int.reduceLT, Int.reduceToNat, Int.reduceNeg, reduceCtorEq, Int.reduceEq, SF0, SF1, SF2, DHb0, DHb1, DHa0, DCg0, DCe0, DCe1, DCe2, DDb0, DBc0, DBc1, DDe0, DAlh0, DAlv0, DBtc0, hp, decide_true, Bool.not_true]
  refine acall_one S (by simp [freeL, AV.free, Work.free]) rfl ?_
  simp (disch := omega) only [SX0, SX1, SX2, SX3, SX4, SX5, SX6, SX7, SX8, SU0, SY0, SY1, Nat.reduceAdd, Nat.reduceMul, Nat.reduceSub, Nat.reduceLeDiff, Nat.reduceEqDiff, Nat.reduceLT, Nat.reduceBEq, ↓reduceIte, Int.reduceLE, Int.reduceLT, Int.reduceToNat, Int.reduceNeg, reduceCtorEq, Int.reduceEq, SF0, SF1, SF2, DHb0, DHb1, DHa0, DCg0, DCe0, DCe1, DCe2, DDb0, DBc0, DBc1, DDe0, DAlh0, DAlv0, DBtc0, sheetsV]
  refine awp_wk (wk_nil 3 5 (by decide) rfl) ?_
  simp (disch := omega) only [SX0, SX1, SX2, SX3, SX4, SX5, SX6, SX7, SX8, SU0, SY0, SY1, Nat.reduceAdd, Nat.reduceMul, Nat.reduceSub, Nat.reduceLeDiff, Nat.reduceEqDiff, Nat.reduceLT, Nat.reduceBEq, ↓reduceIte, Int.reduceLE, Int.reduceLT, Int.reduceToNat, Int.reduceNeg, reduceCtorEq, Int.reduceEq, SF0, SF1, SF2, DHb0, DHb1, DHa0, DCg0, DCe0, DCe1, DCe2, DDb0, DBc0, DBc1, DDe0, DAlh0, DAlv0, DBtc0]
  with_reducible refine awp_loop_h (G := Nat) 5 21 (fun i => [(3, .os 1 5 0 i), (10, .sl (t.map fun x => [sheetV x])), (11, .val (.int .i64 t.length)), (12, .val (.int .i64 i))]) (fun i => [.cells k.cs, .vec 5 ((t.take i).map fun x => (sheetP k x k.H).cs)]) (fun i => i ≤ t.length) (fun i => t.length - i) 0 (Nat.zero_le _) ?_ (fun i hi => sx_sound (bl := []) T_tt _ _ _ ?_)
  · simp (disch := omega) only [SX0, SX1, SX2, SX3, SX4, SX5, SX6, SX7, SX8, SU0, SY0, SY1, Nat.reduceAdd, Nat.reduceMul, Nat.reduceSub, Nat.reduceLeDiff, Nat.reduceEqDiff, Nat.reduceLT, Nat.reduceBEq, ↓reduceIte, Int.reduceLE, Int.reduceLT, Int.reduceToNat, Int.reduceNeg, reduceCtorEq, Int.reduceEq, SF0, SF1, SF2, DHb0, DHb1, DHa0, DCg0, DCe0, DCe1, DCe2, DDb0, DBc0, DBc1, DDe0, DAlh0, DAlv0, DBtc0]
    (refine wk_le ?_ ?_ ?_; (focus (simp [W8, leTm, leAV, AV.under, underL, Work.under]; done)); (focus (simp [leL, OB.under, underL, AV.under, Work.under]; done)); (focus (simp; done)))
  simp (disch := omega) only [SX0, SX1, SX2, SX3, SX4, SX5, SX6, SX7, SX8, SU0, SY0, SY1, Nat.reduceAdd, Nat.reduceMul, Nat.reduceSub, Nat.reduceLeDiff, Nat.reduceEqDiff, Nat.reduceLT, Nat.reduceBEq, ↓reduceIte, Int.reduceLE, Int.reduceLT, Int.reduceToNat, Int.reduceNeg, reduceCtorEq, Int.reduceEq, SF0, SF1, SF2, DHb0, DHb1, DHa0, DCg0, DCe0, DCe1, DCe2, DDb0, DBc0, DBc1, DDe0, DAlh0, DAlv0, DBtc0]
  refine br_dec (fun h1 => ?_) (fun h1 => ?_)
  · obtain ⟨x, hx⟩ := get_lt (l := t) (i := i) (by omega)
    have hxm := List.mem_of_getElem? hx
    have hxo := hall x hxm
    have hxl := hlen.2 x hxm
    have SP := sheetPlanI_c k hp x k.H hxo.ne (fun r hr => ⟨(hxo.rows r hr).ne, by have := hxl.2 r hr; omega, (hxo.rows r hr).idx⟩) (by omega) (by omega) (by omega)
    have hti : (t.take i).length = i := by rw [List.length_take]; omega
    have enx : t.take (i + 1) = t.take i ++ [x] := by rw [List.take_add_one, hx]; rfl
    simp (disch := omega) only [SX0, SX1, SX2, SX3, SX4, SX5, SX6, SX7, SX8, SU0, SY0, SY1, Nat.reduceAdd, Nat.reduceMul, Nat.reduceSub, Nat.reduceLeDiff, Nat.reduceEqDiff, Nat.reduceLT, Nat.reduceBEq, ↓reduceIte, Int.reduceLE, Int.reduceLT, Int.reduceToNat, Int.reduceNeg, reduceCtorEq, Int.reduceEq, SF0, SF1, SF2, DHb0, DHb1, DHa0, DCg0, DCe0, DCe1, DCe2, DDb0, DBc0, DBc1, DDe0, DAlh0, DAlv0, DBtc0, hx]
    refine acall_one SP (by simp [freeL, AV.free, Work.free, sheetV]) (by simp [freeL, AV.free, Plan.free]) ?_
    repeat' first | simp (disch := omega) only [SX0, SX1, SX2, SX3, SX4, SX5, SX6, SX7, SX8, SU0, SY0, SY1, Nat.reduceAdd, Nat.reduceMul, Nat.reduceSub, Nat.reduceLeDiff, Nat.reduceEqDiff, Nat.reduceLT, Nat.reduceBEq, ↓reduceIte, Int.reduceLE, Int.reduceLT, Int.reduceToNat, Int.reduceNeg, reduceCtorEq, Int.reduceEq, SF0, SF1, SF2, DHb0, DHb1, DHa0, DCg0, DCe0, DCe1, DCe2, DDb0, DBc0, DBc1, DDe0, DAlh0, DAlv0, DBtc0] | refine req (by omega) ?_ | fail
    refine ⟨i + 1, by omega, by omega, ?_⟩
    (refine wk_le ?_ ?_ ?_; (focus (simp [W8, leTm, leAV, AV.under, underL, Work.under, enx]; done)); (focus (simp [leL, OB.under, underL, AV.under, Work.under, enx]; done)); (focus (simp; done)))
  · have : i = t.length := by omega
    subst this
    simp (disch := omega) only [SX0, SX1, SX2, SX3, SX4, SX5, SX6, SX7, SX8, SU0, SY0, SY1, Nat.reduceAdd, Nat.reduceMul, Nat.reduceSub, Nat.reduceLeDiff, Nat.reduceEqDiff, Nat.reduceLT, Nat.reduceBEq, ↓reduceIte, Int.reduceLE, Int.reduceLT, Int.reduceToNat, Int.reduceNeg, reduceCtorEq, Int.reduceEq, SF0, SF1, SF2, DHb0, DHb1, DHa0, DCg0, DCe0, DCe1, DCe2, DDb0, DBc0, DBc1, DDe0, DAlh0, DAlv0, DBtc0]
    rw [List.take_length]
    exact fin_row rfl (by simp) ⟨by simp, rfl⟩

def shelfOf (k : Work) (o : List Int) : List Plan := if plainW k then shelfPlansP k o else []
theorem shelfOfI_c (k : Work) (o : List Int) (ho : OrdS k o) (hn : k.Ps.length < 40) : ACalls Try.prog 31 [.agg k.cs] [] [] (fun r L => r = .sl ((shelfOf k o).map Plan.cs) ∧ L = []) := by
  unfold shelfOf
  by_cases hp : plainW k
  · rw [if_pos hp]
    exact shelfPlansI_c k o hp ho hn
  · rw [if_neg hp]
    refine acalls_tm T_tt Try.func31 rfl e_shelfPlansI 25 rfl (W8 _ .any .any .any .any .any .any .any (W8 .any .any .any .any .any .any .any .any (W8 .any .any .any .any .any .any .any .any [.any, .any]))) rfl (rv := [.tmp 2]) rfl (sx_sound (bl := []) T_tt _ _ _ ?_)
    simp (disch := omega) only [SX0, SX1, SX2, SX3, SX4, SX5, SX6, SX7, SX8, SU0, SY0, SY1, Nat.reduceAdd, Nat.reduceMul, Nat.reduceSub, Nat.reduceLeDiff, Nat.reduceEqDiff, Nat.reduceLT, Nat.reduceBEq, ↓reduceIte, Int.reduceLE, Int.reduceLT, Int.reduceToNat, Int.reduceNeg, reduceCtorEq, Int.reduceEq, SF0, SF1, SF2, DHb0, DHb1, DHa0, DCg0, DCe0, DCe1, DCe2, DDb0, DBc0, DBc1, DDe0, DAlh0, DAlv0, DBtc0]
    refine acall_one (plainWorkI_c k (by omega)) (by simp [freeL, AV.free, Work.free]) rfl ?_
    simp (disch := omega) only [SX0, SX1, SX2, SX3, SX4, SX5, SX6, SX7, SX8, SU0, SY0, SY1, Nat.reduceAdd, Nat.reduceMul, Nat.reduceSub, Nat.reduceLeDiff, Nat.reduceEqDiff, Nat.reduceLT, Nat.reduceBEq, ↓reduceIte, Int.reduceLE, Int.reduceLT, Int.reduceToNat, Int.reduceNeg, reduceCtorEq, Int.reduceEq, SF0, SF1, SF2, DHb0, DHb1, DHa0, DCg0, DCe0, DCe1, DCe2, DDb0, DBc0, DBc1, DDe0, DAlh0, DAlv0, DBtc0, hp, decide_false, Bool.not_false]
    exact fin_nilrow ⟨rfl, rfl⟩

theorem OrdS.ex (k : Work) : ∃ o, OrdS k o := by
  let le : Int → Int → Bool := fun x y => decide (¬ cmpS k y x < 0)
  refine ⟨(upTo k.Ps.length).mergeSort le, List.mergeSort_perm _ _, ?_⟩
  have := List.pairwise_mergeSort (le := le) (fun a b c h1 h2 => by
    simp only [le, decide_eq_true_eq] at *
    exact (cmpS_ok k fun _ => True).trans a b c trivial trivial trivial h1 h2) (fun a b => by
    simp only [le, Bool.or_eq_true, decide_eq_true_eq]
    rcases Classical.em (cmpS k b a < 0) with h | h
    · exact .inr ((cmpS_ok k fun _ => True).asym b a trivial trivial h)
    · exact .inl h) (upTo k.Ps.length)
  exact this.imp fun h => by simpa [le] using h

end Go.Pc
