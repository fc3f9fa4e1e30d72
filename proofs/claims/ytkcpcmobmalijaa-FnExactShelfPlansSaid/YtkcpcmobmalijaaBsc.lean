/- Rows of panes on sheets: the walk of the program's shelves. -/
import Derived.Test.YtkcpcmobmalijaaBsb
import Derived.Test.YtkcpcmobmalijaaBte
set_option linter.unusedSimpArgs false
set_option linter.unusedVariables false
namespace Go.Pc
open Go Go.Proofs

def doneV (d : List (List (List Int))) : List AV := d.map sheetV
def rowsV (r : List (List Int)) : List AV := r.map rowV
/-- The blocks in the loop. -/
def shL (k : Work) (s : ShS) : List OB :=
  if s.row = [] then [.cells k.cs, .dead, .vec 1 []]
  else [.cells k.cs, .dead, .slab (doneV s.done ++ [.os 3 1 0 (s.rows.length + 1)]), .slab (rowsV s.rows ++ [.os 4 1 0 s.row.length]), .vec 1 (ints s.row)]

theorem rowsV_free (r : List (List Int)) : freeL (rowsV r) = true := by
  unfold rowsV
  induction r with
  | nil => rfl
  | cons x l ih => simp only [List.map_cons, freeL, ih, AV.free]; rfl
theorem doneV_free (r : List (List (List Int))) : freeL (doneV r) = true := by
  unfold doneV
  induction r with
  | nil => rfl
  | cons x l ih => simp only [List.map_cons, freeL, ih, AV.free]; rfl
theorem rowsV_pure (r : List (List Int)) : (rowsV r).all AV.pure = true := by
  unfold rowsV
  rw [List.all_eq_true]
  intro x hx
  obtain ⟨a, _, rfl⟩ := List.mem_map.1 hx
  rfl
theorem doneV_pure (r : List (List (List Int))) : (doneV r).all AV.pure = true := by
  unfold doneV
  rw [List.all_eq_true]
  intro x hx
  obtain ⟨a, _, rfl⟩ := List.mem_map.1 hx
  rfl
theorem free_map_filt {p : Nat → Bool} {l : List AV} (h : freeL l = true) : l.map (AV.filt p) = l := by rw [← filtL_map]; exact (free_filt_aux p).2 l h
theorem rowsV_len (r : List (List Int)) : (rowsV r).length = r.length := by simp [rowsV]
theorem doneV_len (r : List (List (List Int))) : (doneV r).length = r.length := by simp [doneV]
theorem rowsV_under (m : Nat) (r : List (List Int)) : underL m (rowsV r) = true := by
  unfold rowsV
  induction r with
  | nil => rfl
  | cons x l ih => simp only [List.map_cons, underL, ih]; rfl
theorem doneV_under (m : Nat) (r : List (List (List Int))) : underL m (doneV r) = true := by
  unfold doneV
  induction r with
  | nil => rfl
  | cons x l ih => simp only [List.map_cons, underL, ih]; rfl
theorem under_snoc {m : Nat} {l : List AV} {x : AV} (h1 : underL m l = true) (hx : x.under m = true) : underL m (l ++ [x]) = true := by
  induction l with
  | nil => simp [underL, hx]
  | cons y l ih =>
    simp only [underL, Bool.and_eq_true] at h1
    simp only [List.cons_append, underL, h1.1, ih h1.2, Bool.and_self]
theorem renL_app (f : Nat → Nat) (l l' : List AV) : renL f (l ++ l') = renL f l ++ renL f l' := by rw [renL_map, renL_map, renL_map, List.map_append]
theorem slab_last {l : List AV} {n : Nat} (h : l.length = n) (x : AV) : (l ++ [x])[n]? = some x := by rw [List.getElem?_append_right (by omega), h, Nat.sub_self]; rfl
theorem slab_set {l : List AV} {n : Nat} (h : l.length = n) (x y : AV) : (l ++ [x]).set n y = l ++ [y] := by rw [List.set_append_right _ _ (by omega), h, Nat.sub_self]; rfl

theorem fin_wkp {fx : List Nat} {nb : Nat} {R : AV → List OB → Prop} {s t : AS} {x y : AV} (h : Wk fx ⟨s.tm ++ [x], s.L⟩ ⟨t.tm ++ [y], t.L⟩) (hlen : t.tm.length = s.tm.length) (h' : Fin fx nb R t y) : Fin fx nb R s x := by
  refine fun ρ a w v hr hv => ?_
  have hr' : Rel ρ ⟨s.tm ++ [x], s.L⟩ { a with tmps := a.tmps.push v } w := by
    refine ⟨hr.dfr, by simp [hr.size], fun i u y h1 h2 => ?_, hr.hr⟩
    simp only at h1 h2
    by_cases hi : i < s.tm.length
    · rw [List.getElem?_append_left hi] at h2
      rw [Array.getElem?_push, if_neg (by rw [hr.size]; omega)] at h1
      exact hr.tm i u y h1 h2
    · rw [List.getElem?_append_right (by omega)] at h2
      rw [Array.getElem?_push] at h1
      split at h1
      · rename_i he
        have e0 : i - s.tm.length = 0 := by rw [he, hr.size]; omega
        rw [e0] at h2
        simp at h1 h2
        subst h1; subst h2
        exact hv
      · rename_i he
        rw [Array.getElem?_eq_none (by rw [hr.size] at he ⊢; omega)] at h1
        cases h1
  obtain ⟨ρ1, h1, g1⟩ := h ρ _ w hr'
  have h2 : Rel ρ1 t a w := by
    refine ⟨h1.dfr, by rw [hr.size, hlen], fun i u y h3 h4 => h1.tm i u y ?_ ?_, h1.hr⟩
    · have hi := (List.getElem?_eq_some_iff.1 h4).1
      show (a.tmps.push v)[i]? = _
      rw [Array.getElem?_push, if_neg (by rw [hr.size]; omega)]; exact h3
    · have hi := (List.getElem?_eq_some_iff.1 h4).1
      show (t.tm ++ [_])[i]? = _
      rw [List.getElem?_append_left hi]; exact h4
  have h3 : VR w ρ1 v y := h1.tm s.tm.length v y (by show (a.tmps.push v)[_]? = _; rw [Array.getElem?_push, if_pos hr.size.symm]) (by show (t.tm ++ [_])[_]? = _; rw [List.getElem?_append_right (by omega), hlen, Nat.sub_self]; rfl)
  obtain ⟨x', L', hR, ρ2, q2, q3, g2⟩ := h' ρ1 a w v h2 h3
  exact ⟨x', L', hR, ρ2, q2, q3, g1.trans g2⟩
theorem fin_unslab {fx : List Nat} {nb : Nat} {R : AV → List OB → Prop} {s : AS} {x : AV} {r : Nat} {cs : List AV} (hL : s.L[r]? = some (.slab cs)) (hp : cs.all AV.pure = true) (h' : Fin fx nb R { s with L := s.L.set r (.vec 1 (cs.map fun c => [c])) } x) : Fin fx nb R s x :=
  fin_wkp (t := { s with L := s.L.set r (.vec 1 (cs.map fun c => [c])) }) (wk_unslab (s := ⟨s.tm ++ [x], s.L⟩) hL hp) rfl h'

theorem e_shelvesI : Enters Try.prog 80 := enters_of Try.func80 (by kernel_rfl) (by kernel_rfl)
set_option maxRecDepth 16000 in
set_option maxHeartbeats 8000000 in
theorem shelvesI_c (k : Work) (o : List Int) (hk : plainW k) (ho : OrdS k o) (hn : k.Ps.length < 40) : ACalls Try.prog 80 [.agg k.cs] [] [] (fun r L => r = sheetsV (shRun k o).all ∧ L = []) := by
  have I := indicesByE_c 131 k.cs (cmpS k) k.Ps.length hn (cmpS_ok k _) (fun m => by simp [Work.under]) k.free (fun x y hx hy hxy => shelves1_c k hk x y hx hy hxy)
  refine acalls_tm T_tt Try.func80 rfl e_shelvesI 98 rfl (W8 _ .any .any .any .any .any .any .any (W8 .any .any .any .any .any .any .any .any (W8 .any .any .any .any .any .any .any .any (W8 .any .any .any .any .any .any .any .any (W8 .any .any .any .any .any .any .any .any (W8 .any .any .any .any .any .any .any .any (W8 .any .any .any .any .any .any .any .any (W8 .any .any .any .any .any .any .any .any (W8 .any .any .any .any .any .any .any .any (W8 .any .any .any .any .any .any .any .any (W8 .any .any .any .any .any .any .any .any (W8 .any .any .any .any .any .any .any .any [.any, .any, .any])))))))))))) rfl (rv := [.tmp 2]) rfl (sx_sound (bl := []) T_tt _ _ _ ?_)
  simp (disch := omega) only [SX0, SX1, SX2, SX3, SX4, SX5, SX6, SX7, SX8, SU0, SY0, SY1, Nat.reduceAdd, Nat.reduceMul, Nat.reduceSub, Nat.reduceLeDiff, Nat.reduceEqDiff, Nat.reduceLT, Nat.reduceBEq, ↓reduceIte, Int.reduceLE, Int.reduceLT, Int.reduceToNat, Int.reduceNeg, reduceCtorEq, Int.reduceEq, SF0, SF1, SF2, DHb0, DHb1, DHa0, DCg0, DCe0, DCe1, DCe2, DDb0, DBc0, DBc1, DDe0, DAlh0, DAlv0, DBtc0]
  refine acall_own I [0] [] (by simp [keepL, nameIn, OB.ren, ← renL_map, Work.rend]) (by decide) (by decide) (by rfl) (by simp [AV.ren, nameIn, renL]) ?_
  rintro _ _ ⟨o', rfl, rfl, hp, hs⟩
  have := OrdS.uniq (k := k) ⟨hp, hs⟩ ho
  subst this
  have hol := ho.len
  simp (disch := omega) only [SX0, SX1, SX2, SX3, SX4, SX5, SX6, SX7, SX8, SU0, SY0, SY1, Nat.reduceAdd, Nat.reduceMul, Nat.reduceSub, Nat.reduceLeDiff, Nat.reduceEqDiff, Nat.reduceLT, Nat.reduceBEq, ↓reduceIte, Int.reduceLE, Int.reduceLT, Int.reduceToNat, Int.reduceNeg, reduceCtorEq, Int.reduceEq, SF0, SF1, SF2, DHb0, DHb1, DHa0, DCg0, DCe0, DCe1, DCe2, DDb0, DBc0, DBc1, DDe0, DAlh0, DAlv0, DBtc0]
  (refine awp_wk (wk_frz (r := 1) (k := 1) (es := ints o') rfl (by simp)) ?_; simp only [AS.frz, W8_map, List.map_cons, List.map_nil, AV.frz, OB.frz, frzL, if_true, if_false, Nat.reduceEqDiff, Nat.zero_add, true_and, List.length_map, List.drop_zero, List.set_cons_succ, List.set_cons_zero, Work.frzm, Plan.frzm, Nat.le_refl, hol])
  rw [List.take_of_length_le (by simp [ints]; omega)]
  simp only [Work.frzB, ints, List.length_map, hol, Nat.le_refl, if_true]
  refine awp_wk (wk_nil 3 1 (by decide) rfl) ?_
  simp (disch := omega) only [SX0, SX1, SX2, SX3, SX4, SX5, SX6, SX7, SX8, SU0, SY0, SY1, Nat.reduceAdd, Nat.reduceMul, Nat.reduceSub, Nat.reduceLeDiff, Nat.reduceEqDiff, Nat.reduceLT, Nat.reduceBEq, ↓reduceIte, Int.reduceLE, Int.reduceLT, Int.reduceToNat, Int.reduceNeg, reduceCtorEq, Int.reduceEq, SF0, SF1, SF2, DHb0, DHb1, DHa0, DCg0, DCe0, DCe1, DCe2, DDb0, DBc0, DBc1, DDe0, DAlh0, DAlv0, DBtc0]
  have h0 : (shRun k (o'.take 0)).Ok 0 := by rw [List.take_zero]; exact ShS.zero_ok
  have hz : shL k .zero = [.cells k.cs, .dead, .vec 1 []] := rfl
  with_reducible refine awp_loop_h (G := Nat) 18 81 (fun j => [(3, .os 2 1 0 (shRun k (o'.take j)).all.length), (4, .val (.int .i64 (shRun k (o'.take j)).right)), (5, .val (.int .i64 (shRun k (o'.take j)).above)), (7, .any), (8, .any), (9, .any), (10, .any), (15, .sl (ints o')), (17, .val (.int .i64 j))]) (fun j => shL k (shRun k (o'.take j))) (fun j => j ≤ k.Ps.length ∧ (shRun k (o'.take j)).Ok j) (fun j => k.Ps.length - j) 0 ⟨Nat.zero_le _, h0⟩ ?_ (fun j hj => ?_)
  · simp (disch := omega) only [SX0, SX1, SX2, SX3, SX4, SX5, SX6, SX7, SX8, SU0, SY0, SY1, Nat.reduceAdd, Nat.reduceMul, Nat.reduceSub, Nat.reduceLeDiff, Nat.reduceEqDiff, Nat.reduceLT, Nat.reduceBEq, ↓reduceIte, Int.reduceLE, Int.reduceLT, Int.reduceToNat, Int.reduceNeg, reduceCtorEq, Int.reduceEq, SF0, SF1, SF2, DHb0, DHb1, DHa0, DCg0, DCe0, DCe1, DCe2, DDb0, DBc0, DBc1, DDe0, DAlh0, DAlv0, DBtc0]
    rw [show shRun k [] = .zero from rfl, hz]
    (refine wk_le ?_ ?_ ?_; (focus (simp [W8, leTm, leAV, AV.under, underL, Work.under, ShS.zero, ShS.all, ints]; done)); (focus (simp [leL, OB.under, underL, AV.under, Work.under, ShS.zero, ShS.all, ints]; done)); (focus (simp; done)))
  obtain ⟨hj1, hj2⟩ := hj
  have hnx := fun i => shRun_next k (o := o') (j := j) (i := i)
  generalize hsd : shRun k (o'.take j) = s at *
  refine awp_step (bl := []) T_tt ?_
  simp (disch := omega) only [SX0, SX1, SX2, SX3, SX4, SX5, SX6, SX7, SX8, SU0, SY0, SY1, Nat.reduceAdd, Nat.reduceMul, Nat.reduceSub, Nat.reduceLeDiff, Nat.reduceEqDiff, Nat.reduceLT, Nat.reduceBEq, ↓reduceIte, Int.reduceLE, Int.reduceLT, Int.reduceToNat, Int.reduceNeg, reduceCtorEq, Int.reduceEq, SF0, SF1, SF2, DHb0, DHb1, DHa0, DCg0, DCe0, DCe1, DCe2, DDb0, DBc0, DBc1, DDe0, DAlh0, DAlv0, DBtc0]
  refine awp_step (bl := []) T_tt ?_
  simp (disch := omega) only [SX0, SX1, SX2, SX3, SX4, SX5, SX6, SX7, SX8, SU0, SY0, SY1, Nat.reduceAdd, Nat.reduceMul, Nat.reduceSub, Nat.reduceLeDiff, Nat.reduceEqDiff, Nat.reduceLT, Nat.reduceBEq, ↓reduceIte, Int.reduceLE, Int.reduceLT, Int.reduceToNat, Int.reduceNeg, reduceCtorEq, Int.reduceEq, SF0, SF1, SF2, DHb0, DHb1, DHa0, DCg0, DCe0, DCe1, DCe2, DDb0, DBc0, DBc1, DDe0, DAlh0, DAlv0, DBtc0]
  refine br_dec (fun h1 => ?_) (fun h1 => ?_)
  · obtain ⟨i, hi⟩ := get_lt (l := o') (i := j) (by omega)
    have hnx := hnx i hi
    have him := ho.mem.1 (List.mem_of_getElem? hi)
    have hok := ShS.step_ok hk hj2 him
    have gi := paneA_get him
    have pi := hk.pane him
    have hi0 : (0 ≤ i) = True := eq_true him.1
    have hkw := hk.1
    unfold Work.ok at hkw
    simp (disch := omega) only [SX0, SX1, SX2, SX3, SX4, SX5, SX6, SX7, SX8, SU0, SY0, SY1, Nat.reduceAdd, Nat.reduceMul, Nat.reduceSub, Nat.reduceLeDiff, Nat.reduceEqDiff, Nat.reduceLT, Nat.reduceBEq, ↓reduceIte, Int.reduceLE, Int.reduceLT, Int.reduceToNat, Int.reduceNeg, reduceCtorEq, Int.reduceEq, SF0, SF1, SF2, DHb0, DHb1, DHa0, DCg0, DCe0, DCe1, DCe2, DDb0, DBc0, DBc1, DDe0, DAlh0, DAlv0, DBtc0]
    refine awp_seqB (awp_blockI ?_)
    refine awp_step (bl := []) T_tt ?_
    simp (disch := omega) only [SX0, SX1, SX2, SX3, SX4, SX5, SX6, SX7, SX8, SU0, SY0, SY1, Nat.reduceAdd, Nat.reduceMul, Nat.reduceSub, Nat.reduceLeDiff, Nat.reduceEqDiff, Nat.reduceLT, Nat.reduceBEq, ↓reduceIte, Int.reduceLE, Int.reduceLT, Int.reduceToNat, Int.reduceNeg, reduceCtorEq, Int.reduceEq, SF0, SF1, SF2, DHb0, DHb1, DHa0, DCg0, DCe0, DCe1, DCe2, DDb0, DBc0, DBc1, DDe0, DAlh0, DAlv0, DBtc0, hi]
    refine awp_step (bl := []) T_tt ?_
    by_cases hemp : s.row = []
    · rw [show shL k s = [.cells k.cs, .dead, .vec 1 []] from if_pos hemp]
      repeat' first | simp (disch := omega) only [SX0, SX1, SX2, SX3, SX4, SX5, SX6, SX7, SX8, SU0, SY0, SY1, Nat.reduceAdd, Nat.reduceMul, Nat.reduceSub, Nat.reduceLeDiff, Nat.reduceEqDiff, Nat.reduceLT, Nat.reduceBEq, ↓reduceIte, Int.reduceLE, Int.reduceLT, Int.reduceToNat, Int.reduceNeg, reduceCtorEq, Int.reduceEq, SF0, SF1, SF2, DHb0, DHb1, DHa0, DCg0, DCe0, DCe1, DCe2, DDb0, DBc0, DBc1, DDe0, DAlh0, DAlv0, DBtc0, gi, hi0] | refine req (by omega) ?_ | fail
      obtain ⟨e1, e2, e3, e4⟩ := hj2.emp hemp
      have ea : s.all = [] := by unfold ShS.all; rw [if_pos hemp, e1]
      have es : s.step k i = ⟨[], [], [i], k.W - (paneA k i).W, k.H - (paneA k i).H⟩ := by unfold ShS.step; rw [if_neg (by omega), if_neg (by omega), ea]
      rw [es] at hnx
      simp only [ea, e3, e4, List.length_nil]
      refine awp_step (bl := []) T_tt ?_
      simp (disch := omega) only [SX0, SX1, SX2, SX3, SX4, SX5, SX6, SX7, SX8, SU0, SY0, SY1, Nat.reduceAdd, Nat.reduceMul, Nat.reduceSub, Nat.reduceLeDiff, Nat.reduceEqDiff, Nat.reduceLT, Nat.reduceBEq, ↓reduceIte, Int.reduceLE, Int.reduceLT, Int.reduceToNat, Int.reduceNeg, reduceCtorEq, Int.reduceEq, SF0, SF1, SF2, DHb0, DHb1, DHa0, DCg0, DCe0, DCe1, DCe2, DDb0, DBc0, DBc1, DDe0, DAlh0, DAlv0, DBtc0]
      refine awp_blockI ?_
      refine awp_step (bl := []) T_tt ?_
      simp (disch := omega) only [SX0, SX1, SX2, SX3, SX4, SX5, SX6, SX7, SX8, SU0, SY0, SY1, Nat.reduceAdd, Nat.reduceMul, Nat.reduceSub, Nat.reduceLeDiff, Nat.reduceEqDiff, Nat.reduceLT, Nat.reduceBEq, ↓reduceIte, Int.reduceLE, Int.reduceLT, Int.reduceToNat, Int.reduceNeg, reduceCtorEq, Int.reduceEq, SF0, SF1, SF2, DHb0, DHb1, DHa0, DCg0, DCe0, DCe1, DCe2, DDb0, DBc0, DBc1, DDe0, DAlh0, DAlv0, DBtc0, Pane.cs]
      refine awp_condB _ rfl (fun h => absurd (of_decide_eq_true h) (by omega)) (fun _ => ?_)
      refine awp_step (bl := []) T_tt ?_
      simp (disch := omega) only [SX0, SX1, SX2, SX3, SX4, SX5, SX6, SX7, SX8, SU0, SY0, SY1, Nat.reduceAdd, Nat.reduceMul, Nat.reduceSub, Nat.reduceLeDiff, Nat.reduceEqDiff, Nat.reduceLT, Nat.reduceBEq, ↓reduceIte, Int.reduceLE, Int.reduceLT, Int.reduceToNat, Int.reduceNeg, reduceCtorEq, Int.reduceEq, SF0, SF1, SF2, DHb0, DHb1, DHa0, DCg0, DCe0, DCe1, DCe2, DDb0, DBc0, DBc1, DDe0, DAlh0, DAlv0, DBtc0, Pane.cs]
      refine awp_condB _ rfl (fun h => absurd (of_decide_eq_true h) (by omega)) (fun _ => ?_)
      refine awp_seqB (awp_scut (bl := [31, 32]) T_tt [(3, 5, 31), (1, 2, 32)] ?_)
      simp (disch := omega) only [SX0, SX1, SX2, SX3, SX4, SX5, SX6, SX7, SX8, SU0, SY0, SY1, Nat.reduceAdd, Nat.reduceMul, Nat.reduceSub, Nat.reduceLeDiff, Nat.reduceEqDiff, Nat.reduceLT, Nat.reduceBEq, ↓reduceIte, Int.reduceLE, Int.reduceLT, Int.reduceToNat, Int.reduceNeg, reduceCtorEq, Int.reduceEq, SF0, SF1, SF2, DHb0, DHb1, DHa0, DCg0, DCe0, DCe1, DCe2, DDb0, DBc0, DBc1, DDe0, DAlh0, DAlv0, DBtc0, List.take_succ_cons, List.take_zero, List.drop_succ_cons, List.drop_zero]
      refine cutS rfl fun v1 hv1 => ?_
      simp (disch := omega) only [SX0, SX1, SX2, SX3, SX4, SX5, SX6, SX7, SX8, SU0, SY0, SY1, Nat.reduceAdd, Nat.reduceMul, Nat.reduceSub, Nat.reduceLeDiff, Nat.reduceEqDiff, Nat.reduceLT, Nat.reduceBEq, ↓reduceIte, Int.reduceLE, Int.reduceLT, Int.reduceToNat, Int.reduceNeg, reduceCtorEq, Int.reduceEq, SF0, SF1, SF2, DHb0, DHb1, DHa0, DCg0, DCe0, DCe1, DCe2, DDb0, DBc0, DBc1, DDe0, DAlh0, DAlv0, DBtc0, hv1, List.take_succ_cons, List.take_zero, List.drop_succ_cons, List.drop_zero]
      refine cutS rfl fun v2 hv2 => ?_
      simp (disch := omega) only [SX0, SX1, SX2, SX3, SX4, SX5, SX6, SX7, SX8, SU0, SY0, SY1, Nat.reduceAdd, Nat.reduceMul, Nat.reduceSub, Nat.reduceLeDiff, Nat.reduceEqDiff, Nat.reduceLT, Nat.reduceBEq, ↓reduceIte, Int.reduceLE, Int.reduceLT, Int.reduceToNat, Int.reduceNeg, reduceCtorEq, Int.reduceEq, SF0, SF1, SF2, DHb0, DHb1, DHa0, DCg0, DCe0, DCe1, DCe2, DDb0, DBc0, DBc1, DDe0, DAlh0, DAlv0, DBtc0, hv1, hv2]
      refine req (by decide) ?_
      simp (disch := omega) only [SX0, SX1, SX2, SX3, SX4, SX5, SX6, SX7, SX8, SU0, SY0, SY1, Nat.reduceAdd, Nat.reduceMul, Nat.reduceSub, Nat.reduceLeDiff, Nat.reduceEqDiff, Nat.reduceLT, Nat.reduceBEq, ↓reduceIte, Int.reduceLE, Int.reduceLT, Int.reduceToNat, Int.reduceNeg, reduceCtorEq, Int.reduceEq, SF0, SF1, SF2, DHb0, DHb1, DHa0, DCg0, DCe0, DCe1, DCe2, DDb0, DBc0, DBc1, DDe0, DAlh0, DAlv0, DBtc0, hv1, hv2]
      refine tieK [] rfl rfl ?_
      refine tieK [] rfl rfl ?_
      simp (disch := omega) only [SX0, SX1, SX2, SX3, SX4, SX5, SX6, SX7, SX8, SU0, SY0, SY1, Nat.reduceAdd, Nat.reduceMul, Nat.reduceSub, Nat.reduceLeDiff, Nat.reduceEqDiff, Nat.reduceLT, Nat.reduceBEq, ↓reduceIte, Int.reduceLE, Int.reduceLT, Int.reduceToNat, Int.reduceNeg, reduceCtorEq, Int.reduceEq, SF0, SF1, SF2, DHb0, DHb1, DHa0, DCg0, DCe0, DCe1, DCe2, DDb0, DBc0, DBc1, DDe0, DAlh0, DAlv0, DBtc0]
      refine awp_drawA T_tt mixed (by decide +kernel) (by kernel_rfl) (by kernel_rfl) ?_
      simp (disch := omega) only [SX0, SX1, SX2, SX3, SX4, SX5, SX6, SX7, SX8, SU0, SY0, SY1, Nat.reduceAdd, Nat.reduceMul, Nat.reduceSub, Nat.reduceLeDiff, Nat.reduceEqDiff, Nat.reduceLT, Nat.reduceBEq, ↓reduceIte, Int.reduceLE, Int.reduceLT, Int.reduceToNat, Int.reduceNeg, reduceCtorEq, Int.reduceEq, SF0, SF1, SF2, DHb0, DHb1, DHa0, DCg0, DCe0, DCe1, DCe2, DDb0, DBc0, DBc1, DDe0, DAlh0, DAlv0, DBtc0, Pane.cs]
      rw [es] at hok
      refine sx_sound (bl := []) T_tt _ _ _ ?_
      simp (disch := omega) only [SX0, SX1, SX2, SX3, SX4, SX5, SX6, SX7, SX8, SU0, SY0, SY1, Nat.reduceAdd, Nat.reduceMul, Nat.reduceSub, Nat.reduceLeDiff, Nat.reduceEqDiff, Nat.reduceLT, Nat.reduceBEq, ↓reduceIte, Int.reduceLE, Int.reduceLT, Int.reduceToNat, Int.reduceNeg, reduceCtorEq, Int.reduceEq, SF0, SF1, SF2, DHb0, DHb1, DHa0, DCg0, DCe0, DCe1, DCe2, DDb0, DBc0, DBc1, DDe0, DAlh0, DAlv0, DBtc0]
      refine ⟨j + 1, ⟨by omega, by rw [hnx]; exact hok⟩, by omega, ?_⟩
      rw [hnx]
      have hS : shL k ⟨[], [], [i], k.W - (paneA k i).W, k.H - (paneA k i).H⟩ = [.cells k.cs, .dead, .slab [.os 3 1 0 1], .slab [.os 4 1 0 1], .vec 1 [[.val (.int .i64 i)]]] := if_neg (by simp)
      rw [hS]
      refine Wk.trans (wk_swap (r := 3) (q := 5) (by simp) (by simp) (by simp) (by simp)) ?_
      simp only [AS.swap, swapL, W8_map, List.map_cons, List.map_nil, AV.ren, OB.ren, renL, renL_map, ← renL_map, swN2, Work.rend, List.getD_cons_succ, List.getD_cons_zero, List.set_cons_succ, List.set_cons_zero, Nat.reduceEqDiff, if_true, if_false]
      (refine wk_le ?_ ?_ ?_; (focus (simp [W8, leTm, leAV, AV.under, underL, ShS.all, Work.under]; done)); (focus (simp [leL, OB.under, underL, AV.under, ShS.all, Work.under]; done)); (focus (simp; done)))
    · rw [show shL k s = [.cells k.cs, .dead, .slab (doneV s.done ++ [.os 3 1 0 (s.rows.length + 1)]), .slab (rowsV s.rows ++ [.os 4 1 0 s.row.length]), .vec 1 (ints s.row)] from if_neg hemp]
      repeat' first | simp (disch := omega) only [SX0, SX1, SX2, SX3, SX4, SX5, SX6, SX7, SX8, SU0, SY0, SY1, Nat.reduceAdd, Nat.reduceMul, Nat.reduceSub, Nat.reduceLeDiff, Nat.reduceEqDiff, Nat.reduceLT, Nat.reduceBEq, ↓reduceIte, Int.reduceLE, Int.reduceLT, Int.reduceToNat, Int.reduceNeg, reduceCtorEq, Int.reduceEq, SF0, SF1, SF2, DHb0, DHb1, DHa0, DCg0, DCe0, DCe1, DCe2, DDb0, DBc0, DBc1, DDe0, DAlh0, DAlv0, DBtc0, gi, hi0] | refine req (by omega) ?_ | fail
      obtain ⟨b1, b2, b3⟩ := hj2.l
      obtain ⟨b4, b5⟩ := hj2.r
      obtain ⟨b6, b7⟩ := hj2.a
      have ea : s.all.length = s.done.length + 1 := by unfold ShS.all; rw [if_neg hemp]; simp
      have el : ((s.done.length + 1 : Nat) : Int) - 1 = s.done.length := by omega
      have er : ((s.rows.length + 1 : Nat) : Int) - 1 = s.rows.length := by omega
      have l1 : (doneV s.done).length = s.done.length := by simp [doneV]
      have l2 : (rowsV s.rows).length = s.rows.length := by simp [rowsV]
      have g1 : (doneV s.done ++ [AV.os 3 1 0 (s.rows.length + 1)])[s.done.length]? = some (.os 3 1 0 (s.rows.length + 1)) := by rw [List.getElem?_append_right (by omega), l1, Nat.sub_self]; rfl
      have g2 : (rowsV s.rows ++ [AV.os 4 1 0 s.row.length])[s.rows.length]? = some (.os 4 1 0 s.row.length) := by rw [List.getElem?_append_right (by omega), l2, Nat.sub_self]; rfl
      rw [ea]
      refine awp_step (bl := []) T_tt ?_
      simp (disch := omega) only [SX0, SX1, SX2, SX3, SX4, SX5, SX6, SX7, SX8, SU0, SY0, SY1, Nat.reduceAdd, Nat.reduceMul, Nat.reduceSub, Nat.reduceLeDiff, Nat.reduceEqDiff, Nat.reduceLT, Nat.reduceBEq, ↓reduceIte, Int.reduceLE, Int.reduceLT, Int.reduceToNat, Int.reduceNeg, reduceCtorEq, Int.reduceEq, SF0, SF1, SF2, DHb0, DHb1, DHa0, DCg0, DCe0, DCe1, DCe2, DDb0, DBc0, DBc1, DDe0, DAlh0, DAlv0, DBtc0, el]
      refine awp_blockI ?_
      refine awp_step (bl := []) T_tt ?_
      simp (disch := omega) only [SX0, SX1, SX2, SX3, SX4, SX5, SX6, SX7, SX8, SU0, SY0, SY1, Nat.reduceAdd, Nat.reduceMul, Nat.reduceSub, Nat.reduceLeDiff, Nat.reduceEqDiff, Nat.reduceLT, Nat.reduceBEq, ↓reduceIte, Int.reduceLE, Int.reduceLT, Int.reduceToNat, Int.reduceNeg, reduceCtorEq, Int.reduceEq, SF0, SF1, SF2, DHb0, DHb1, DHa0, DCg0, DCe0, DCe1, DCe2, DDb0, DBc0, DBc1, DDe0, DAlh0, DAlv0, DBtc0, Pane.cs]
      refine awp_condB _ rfl (fun h2 => ?_) (fun h2 => ?_)
      · have h2 := of_decide_eq_true h2
        refine sx_sound (bl := []) T_tt _ _ _ ?_
        have f1 : OB.filt (keepRs [4]) (.slab (rowsV s.rows ++ [.os 4 1 0 s.row.length])) = .slab (rowsV s.rows ++ [.any]) := by simp [OB.filt, free_map_filt (rowsV_free _), AV.filt, keepRs, inR]
        have f2 : OB.filt (keepRs [4]) (.slab (doneV s.done ++ [.os 3 1 0 (s.rows.length + 1)])) = .slab (doneV s.done ++ [.os 3 1 0 (s.rows.length + 1)]) := by simp [OB.filt, free_map_filt (doneV_free _), AV.filt, keepRs, inR]
        have st := fun y => slab_set (rowsV_len s.rows) .any y
        have g3 := slab_last (rowsV_len s.rows) .any
        have es : s.step k i = ⟨s.done, s.rows, s.row ++ [i], s.right - (paneA k i).W, s.above⟩ := by unfold ShS.step; rw [if_pos h2]
        rw [es] at hnx hok
        repeat' first | simp (disch := omega) only [SX0, SX1, SX2, SX3, SX4, SX5, SX6, SX7, SX8, SU0, SY0, SY1, Nat.reduceAdd, Nat.reduceMul, Nat.reduceSub, Nat.reduceLeDiff, Nat.reduceEqDiff, Nat.reduceLT, Nat.reduceBEq, ↓reduceIte, Int.reduceLE, Int.reduceLT, Int.reduceToNat, Int.reduceNeg, reduceCtorEq, Int.reduceEq, SF0, SF1, SF2, DHb0, DHb1, DHa0, DCg0, DCe0, DCe1, DCe2, DDb0, DBc0, DBc1, DDe0, DAlh0, DAlv0, DBtc0, el, er, g1, g2, g3, f1, f2, st, Pane.cs, List.length_append, rowsV_len, doneV_len] | refine req (by omega) ?_ | fail
        refine sx_sound (bl := []) T_tt _ _ _ ?_
        simp (disch := omega) only [SX0, SX1, SX2, SX3, SX4, SX5, SX6, SX7, SX8, SU0, SY0, SY1, Nat.reduceAdd, Nat.reduceMul, Nat.reduceSub, Nat.reduceLeDiff, Nat.reduceEqDiff, Nat.reduceLT, Nat.reduceBEq, ↓reduceIte, Int.reduceLE, Int.reduceLT, Int.reduceToNat, Int.reduceNeg, reduceCtorEq, Int.reduceEq, SF0, SF1, SF2, DHb0, DHb1, DHa0, DCg0, DCe0, DCe1, DCe2, DDb0, DBc0, DBc1, DDe0, DAlh0, DAlv0, DBtc0]
        refine ⟨j + 1, ⟨by omega, by rw [hnx]; exact hok⟩, by omega, ?_⟩
        rw [hnx]
        have hS : shL k ⟨s.done, s.rows, s.row ++ [i], s.right - (paneA k i).W, s.above⟩ = [.cells k.cs, .dead, .slab (doneV s.done ++ [.os 3 1 0 (s.rows.length + 1)]), .slab (rowsV s.rows ++ [.os 4 1 0 (s.row.length + 1)]), .vec 1 (ints (s.row ++ [i]))] := by unfold shL; rw [if_neg (by simp)]; simp
        rw [hS]
        have u1 : ∀ m, underL (m + 4) (doneV s.done ++ [AV.os 3 1 0 (s.rows.length + 1)]) = true := fun m => under_snoc (doneV_under _ _) (by simp [AV.under])
        have u2 : ∀ m, underL (m + 5) (rowsV s.rows ++ [AV.os 4 1 0 (s.row.length + 1)]) = true := fun m => under_snoc (rowsV_under _ _) (by simp [AV.under])
        (refine wk_le ?_ ?_ ?_; (focus (simp [W8, leTm, leAV, AV.under, underL, ShS.all, Work.under, u1, u2, ints]; done)); (focus (simp [leL, OB.under, underL, AV.under, ShS.all, Work.under, u1, u2, ints]; done)); (focus (simp; done)))
      have h2 := of_decide_eq_false h2
      refine awp_step (bl := []) T_tt ?_
      simp (disch := omega) only [SX0, SX1, SX2, SX3, SX4, SX5, SX6, SX7, SX8, SU0, SY0, SY1, Nat.reduceAdd, Nat.reduceMul, Nat.reduceSub, Nat.reduceLeDiff, Nat.reduceEqDiff, Nat.reduceLT, Nat.reduceBEq, ↓reduceIte, Int.reduceLE, Int.reduceLT, Int.reduceToNat, Int.reduceNeg, reduceCtorEq, Int.reduceEq, SF0, SF1, SF2, DHb0, DHb1, DHa0, DCg0, DCe0, DCe1, DCe2, DDb0, DBc0, DBc1, DDe0, DAlh0, DAlv0, DBtc0, Pane.cs]
      have hrl : (ints s.row).length = s.row.length := by simp [ints]
      have hfz : List.map (AV.frz 4 1 (ints s.row)) (rowsV s.rows ++ [AV.os 4 1 0 s.row.length]) = rowsV (s.rows ++ [s.row]) := by
        rw [List.map_append, freeL_frzm _ _ _ (rowsV_free _), rowsV, rowsV, List.map_append]
        simp only [List.map_cons, List.map_nil, AV.frz, if_true, Nat.zero_add, true_and, hrl, Nat.le_refl, List.drop_zero]
        rw [List.take_of_length_le (Nat.le_of_eq hrl)]
        rfl
      refine awp_condB _ rfl (fun h3 => ?_) (fun h3 => ?_)
      · have h3 := of_decide_eq_true h3
        have es : s.step k i = ⟨s.done, s.rows ++ [s.row], [i], k.W - (paneA k i).W, s.above - (paneA k i).H⟩ := by unfold ShS.step; rw [if_neg h2, if_pos h3]
        rw [es] at hnx hok
        have hfd : List.map (AV.frz 4 1 (ints s.row)) (doneV s.done ++ [AV.os 3 1 0 (s.rows.length + 1)]) = doneV s.done ++ [AV.os 3 1 0 (s.rows.length + 1)] := by
          rw [List.map_append, freeL_frzm _ _ _ (doneV_free _)]
          simp [AV.frz]
        (refine awp_wk (wk_frz (r := 4) (k := 1) (es := ints s.row) rfl (by simp)) ?_; simp only [AS.frz, W8_map, List.map_cons, List.map_nil, AV.frz, OB.frz, frzL, if_true, if_false, Nat.reduceEqDiff, Nat.zero_add, true_and, List.length_map, List.drop_zero, List.set_cons_succ, List.set_cons_zero, Work.frzm, Plan.frzm, Nat.le_refl, hfz, hfd, hrl])
        refine awp_wk (wk_unslab (r := 3) (cs := rowsV (s.rows ++ [s.row])) rfl (rowsV_pure _)) ?_
        simp only [Work.frzB, List.set_cons_succ, List.set_cons_zero]
        refine awp_seqB (awp_scut (bl := [84]) T_tt [(8, 3, 84)] ?_)
        have f3 : OB.filt (keepRs [3]) (.slab (doneV s.done ++ [.os 3 1 0 (s.rows.length + 1)])) = .slab (doneV s.done ++ [.any]) := by simp [OB.filt, free_map_filt (doneV_free _), AV.filt, keepRs, inR]
        have st := fun y => slab_set (doneV_len s.done) .any y
        have g3 := slab_last (doneV_len s.done) .any
        have hrl1 : (rowsV (s.rows ++ [s.row])).length = s.rows.length + 1 := by simp [rowsV]
        repeat' first | simp (disch := omega) only [SX0, SX1, SX2, SX3, SX4, SX5, SX6, SX7, SX8, SU0, SY0, SY1, Nat.reduceAdd, Nat.reduceMul, Nat.reduceSub, Nat.reduceLeDiff, Nat.reduceEqDiff, Nat.reduceLT, Nat.reduceBEq, ↓reduceIte, Int.reduceLE, Int.reduceLT, Int.reduceToNat, Int.reduceNeg, reduceCtorEq, Int.reduceEq, SF0, SF1, SF2, DHb0, DHb1, DHa0, DCg0, DCe0, DCe1, DCe2, DDb0, DBc0, DBc1, DDe0, DAlh0, DAlv0, DBtc0, List.take_succ_cons, List.take_zero, List.drop_succ_cons, List.drop_zero, g1] | refine req (by omega) ?_ | fail
        refine cutS rfl fun v1 hv1 => ?_
        repeat' first | simp (disch := omega) only [SX0, SX1, SX2, SX3, SX4, SX5, SX6, SX7, SX8, SU0, SY0, SY1, Nat.reduceAdd, Nat.reduceMul, Nat.reduceSub, Nat.reduceLeDiff, Nat.reduceEqDiff, Nat.reduceLT, Nat.reduceBEq, ↓reduceIte, Int.reduceLE, Int.reduceLT, Int.reduceToNat, Int.reduceNeg, reduceCtorEq, Int.reduceEq, SF0, SF1, SF2, DHb0, DHb1, DHa0, DCg0, DCe0, DCe1, DCe2, DDb0, DBc0, DBc1, DDe0, DAlh0, DAlv0, DBtc0, hv1, hrl1, g1, g3, f3, st, List.length_append, doneV_len] | refine req (by omega) ?_ | refine req (by decide) ?_ | fail
        refine tieK (rowsV (s.rows ++ [s.row])) (by simp) rfl ?_
        simp (disch := omega) only [SX0, SX1, SX2, SX3, SX4, SX5, SX6, SX7, SX8, SU0, SY0, SY1, Nat.reduceAdd, Nat.reduceMul, Nat.reduceSub, Nat.reduceLeDiff, Nat.reduceEqDiff, Nat.reduceLT, Nat.reduceBEq, ↓reduceIte, Int.reduceLE, Int.reduceLT, Int.reduceToNat, Int.reduceNeg, reduceCtorEq, Int.reduceEq, SF0, SF1, SF2, DHb0, DHb1, DHa0, DCg0, DCe0, DCe1, DCe2, DDb0, DBc0, DBc1, DDe0, DAlh0, DAlv0, DBtc0]
        refine awp_drawA T_tt mixed (by decide +kernel) (by kernel_rfl) (by kernel_rfl) ?_
        simp (disch := omega) only [SX0, SX1, SX2, SX3, SX4, SX5, SX6, SX7, SX8, SU0, SY0, SY1, Nat.reduceAdd, Nat.reduceMul, Nat.reduceSub, Nat.reduceLeDiff, Nat.reduceEqDiff, Nat.reduceLT, Nat.reduceBEq, ↓reduceIte, Int.reduceLE, Int.reduceLT, Int.reduceToNat, Int.reduceNeg, reduceCtorEq, Int.reduceEq, SF0, SF1, SF2, DHb0, DHb1, DHa0, DCg0, DCe0, DCe1, DCe2, DDb0, DBc0, DBc1, DDe0, DAlh0, DAlv0, DBtc0, Pane.cs]
        refine sx_sound (bl := []) T_tt _ _ _ ?_
        simp (disch := omega) only [SX0, SX1, SX2, SX3, SX4, SX5, SX6, SX7, SX8, SU0, SY0, SY1, Nat.reduceAdd, Nat.reduceMul, Nat.reduceSub, Nat.reduceLeDiff, Nat.reduceEqDiff, Nat.reduceLT, Nat.reduceBEq, ↓reduceIte, Int.reduceLE, Int.reduceLT, Int.reduceToNat, Int.reduceNeg, reduceCtorEq, Int.reduceEq, SF0, SF1, SF2, DHb0, DHb1, DHa0, DCg0, DCe0, DCe1, DCe2, DDb0, DBc0, DBc1, DDe0, DAlh0, DAlv0, DBtc0]
        refine ⟨j + 1, ⟨by omega, by rw [hnx]; exact hok⟩, by omega, ?_⟩
        rw [hnx]
        have hS : shL k ⟨s.done, s.rows ++ [s.row], [i], k.W - (paneA k i).W, s.above - (paneA k i).H⟩ = [.cells k.cs, .dead, .slab (doneV s.done ++ [.os 3 1 0 (s.rows.length + 1 + 1)]), .slab (rowsV (s.rows ++ [s.row]) ++ [.os 4 1 0 1]), .vec 1 [[.val (.int .i64 i)]]] := by unfold shL; rw [if_neg (by simp)]; simp [ints]
        rw [hS]
        refine Wk.trans (wk_swap (r := 4) (q := 6) (by simp) (by simp) (by simp) (by simp)) ?_
        simp only [AS.swap, swapL, W8_map, List.map_cons, List.map_nil, List.map_append, AV.ren, OB.ren, renL, ← renL_map, renL_app, swN2, Work.rend, freeL_rend _ (rowsV_free _), freeL_rend _ (doneV_free _), List.getD_cons_succ, List.getD_cons_zero, List.set_cons_succ, List.set_cons_zero, Nat.reduceEqDiff, if_true, if_false]
        have u1 : ∀ m, underL (m + 4) (doneV s.done ++ [AV.os 3 1 0 (s.rows.length + 1 + 1)]) = true := fun m => under_snoc (doneV_under _ _) (by simp [AV.under])
        have u2 : ∀ m, underL (m + 5) (rowsV (s.rows ++ [s.row]) ++ [AV.os 4 1 0 1]) = true := fun m => under_snoc (rowsV_under _ _) (by simp [AV.under])
        (refine wk_le ?_ ?_ ?_; (focus (simp [W8, leTm, leAV, AV.under, underL, ShS.all, Work.under, u1, u2]; done)); (focus (simp [leL, OB.under, underL, AV.under, ShS.all, Work.under, u1, u2]; done)); (focus (simp; done)))
      · have h3 := of_decide_eq_false h3
        have es : s.step k i = ⟨s.done ++ [s.rows ++ [s.row]], [], [i], k.W - (paneA k i).W, k.H - (paneA k i).H⟩ := by unfold ShS.step ShS.all; rw [if_neg h2, if_neg h3, if_neg hemp]
        rw [es] at hnx hok
        have hfd : List.map (AV.frz 4 1 (ints s.row)) (doneV s.done ++ [AV.os 3 1 0 (s.rows.length + 1)]) = doneV s.done ++ [AV.os 3 1 0 (s.rows.length + 1)] := by
          rw [List.map_append, freeL_frzm _ _ _ (doneV_free _)]
          simp [AV.frz]
        (refine awp_wk (wk_frz (r := 4) (k := 1) (es := ints s.row) rfl (by simp)) ?_; simp only [AS.frz, W8_map, List.map_cons, List.map_nil, AV.frz, OB.frz, frzL, if_true, if_false, Nat.reduceEqDiff, Nat.zero_add, true_and, List.length_map, List.drop_zero, List.set_cons_succ, List.set_cons_zero, Work.frzm, Plan.frzm, Nat.le_refl, hfz, hfd, hrl])
        refine awp_wk (wk_unslab (r := 3) (cs := rowsV (s.rows ++ [s.row])) rfl (rowsV_pure _)) ?_
        simp only [Work.frzB, List.set_cons_succ, List.set_cons_zero]
        have hrl1 : (rowsV (s.rows ++ [s.row])).length = s.rows.length + 1 := by simp [rowsV]
        have hfe : List.map (AV.frz 3 1 ((rowsV (s.rows ++ [s.row])).map fun c => [c])) (doneV s.done ++ [AV.os 3 1 0 (s.rows.length + 1)]) = doneV (s.done ++ [s.rows ++ [s.row]]) := by
          rw [List.map_append, freeL_frzm _ _ _ (doneV_free _), doneV, doneV, List.map_append]
          simp only [List.map_cons, List.map_nil, AV.frz, if_true, Nat.zero_add, true_and, List.length_map, hrl1, Nat.le_refl, List.drop_zero]
          rw [List.take_of_length_le (by simp [hrl1])]
          simp [sheetV, rowsV]
        (refine awp_wk (wk_frz (r := 3) (k := 1) (es := (rowsV (s.rows ++ [s.row])).map fun c => [c]) rfl (by simp)) ?_; simp only [AS.frz, W8_map, List.map_cons, List.map_nil, AV.frz, OB.frz, frzL, if_true, if_false, Nat.reduceEqDiff, Nat.zero_add, true_and, List.length_map, List.drop_zero, List.set_cons_succ, List.set_cons_zero, Work.frzm, Plan.frzm, Nat.le_refl, hfe])
        refine awp_wk (wk_unslab (r := 2) (cs := doneV (s.done ++ [s.rows ++ [s.row]])) rfl (doneV_pure _)) ?_
        simp only [Work.frzB, List.set_cons_succ, List.set_cons_zero]
        have hdl1 : (doneV (s.done ++ [s.rows ++ [s.row]])).length = s.done.length + 1 := by simp [doneV]
        refine awp_seqB (awp_scut (bl := [31, 32]) T_tt [(3, 7, 31), (1, 2, 32)] ?_)
        simp (disch := omega) only [SX0, SX1, SX2, SX3, SX4, SX5, SX6, SX7, SX8, SU0, SY0, SY1, Nat.reduceAdd, Nat.reduceMul, Nat.reduceSub, Nat.reduceLeDiff, Nat.reduceEqDiff, Nat.reduceLT, Nat.reduceBEq, ↓reduceIte, Int.reduceLE, Int.reduceLT, Int.reduceToNat, Int.reduceNeg, reduceCtorEq, Int.reduceEq, SF0, SF1, SF2, DHb0, DHb1, DHa0, DCg0, DCe0, DCe1, DCe2, DDb0, DBc0, DBc1, DDe0, DAlh0, DAlv0, DBtc0, List.take_succ_cons, List.take_zero, List.drop_succ_cons, List.drop_zero]
        refine cutS rfl fun v1 hv1 => ?_
        simp (disch := omega) only [SX0, SX1, SX2, SX3, SX4, SX5, SX6, SX7, SX8, SU0, SY0, SY1, Nat.reduceAdd, Nat.reduceMul, Nat.reduceSub, Nat.reduceLeDiff, Nat.reduceEqDiff, Nat.reduceLT, Nat.reduceBEq, ↓reduceIte, Int.reduceLE, Int.reduceLT, Int.reduceToNat, Int.reduceNeg, reduceCtorEq, Int.reduceEq, SF0, SF1, SF2, DHb0, DHb1, DHa0, DCg0, DCe0, DCe1, DCe2, DDb0, DBc0, DBc1, DDe0, DAlh0, DAlv0, DBtc0, hv1, List.take_succ_cons, List.take_zero, List.drop_succ_cons, List.drop_zero]
        refine cutS rfl fun v2 hv2 => ?_
        repeat' first | simp (disch := omega) only [SX0, SX1, SX2, SX3, SX4, SX5, SX6, SX7, SX8, SU0, SY0, SY1, Nat.reduceAdd, Nat.reduceMul, Nat.reduceSub, Nat.reduceLeDiff, Nat.reduceEqDiff, Nat.reduceLT, Nat.reduceBEq, ↓reduceIte, Int.reduceLE, Int.reduceLT, Int.reduceToNat, Int.reduceNeg, reduceCtorEq, Int.reduceEq, SF0, SF1, SF2, DHb0, DHb1, DHa0, DCg0, DCe0, DCe1, DCe2, DDb0, DBc0, DBc1, DDe0, DAlh0, DAlv0, DBtc0, hv1, hv2, hdl1] | refine req (by omega) ?_ | refine req (by decide) ?_ | fail
        refine tieK (doneV (s.done ++ [s.rows ++ [s.row]])) (by simp) rfl ?_
        refine tieK [] rfl rfl ?_
        simp (disch := omega) only [SX0, SX1, SX2, SX3, SX4, SX5, SX6, SX7, SX8, SU0, SY0, SY1, Nat.reduceAdd, Nat.reduceMul, Nat.reduceSub, Nat.reduceLeDiff, Nat.reduceEqDiff, Nat.reduceLT, Nat.reduceBEq, ↓reduceIte, Int.reduceLE, Int.reduceLT, Int.reduceToNat, Int.reduceNeg, reduceCtorEq, Int.reduceEq, SF0, SF1, SF2, DHb0, DHb1, DHa0, DCg0, DCe0, DCe1, DCe2, DDb0, DBc0, DBc1, DDe0, DAlh0, DAlv0, DBtc0]
        refine awp_drawA T_tt mixed (by decide +kernel) (by kernel_rfl) (by kernel_rfl) ?_
        simp (disch := omega) only [SX0, SX1, SX2, SX3, SX4, SX5, SX6, SX7, SX8, SU0, SY0, SY1, Nat.reduceAdd, Nat.reduceMul, Nat.reduceSub, Nat.reduceLeDiff, Nat.reduceEqDiff, Nat.reduceLT, Nat.reduceBEq, ↓reduceIte, Int.reduceLE, Int.reduceLT, Int.reduceToNat, Int.reduceNeg, reduceCtorEq, Int.reduceEq, SF0, SF1, SF2, DHb0, DHb1, DHa0, DCg0, DCe0, DCe1, DCe2, DDb0, DBc0, DBc1, DDe0, DAlh0, DAlv0, DBtc0, Pane.cs]
        refine sx_sound (bl := []) T_tt _ _ _ ?_
        simp (disch := omega) only [SX0, SX1, SX2, SX3, SX4, SX5, SX6, SX7, SX8, SU0, SY0, SY1, Nat.reduceAdd, Nat.reduceMul, Nat.reduceSub, Nat.reduceLeDiff, Nat.reduceEqDiff, Nat.reduceLT, Nat.reduceBEq, ↓reduceIte, Int.reduceLE, Int.reduceLT, Int.reduceToNat, Int.reduceNeg, reduceCtorEq, Int.reduceEq, SF0, SF1, SF2, DHb0, DHb1, DHa0, DCg0, DCe0, DCe1, DCe2, DDb0, DBc0, DBc1, DDe0, DAlh0, DAlv0, DBtc0]
        refine ⟨j + 1, ⟨by omega, by rw [hnx]; exact hok⟩, by omega, ?_⟩
        rw [hnx]
        have hS : shL k ⟨s.done ++ [s.rows ++ [s.row]], [], [i], k.W - (paneA k i).W, k.H - (paneA k i).H⟩ = [.cells k.cs, .dead, .slab (doneV (s.done ++ [s.rows ++ [s.row]]) ++ [.os 3 1 0 1]), .slab [.os 4 1 0 1], .vec 1 [[.val (.int .i64 i)]]] := by unfold shL; rw [if_neg (by simp)]; simp [ints, rowsV]
        rw [hS]
        refine Wk.trans (wk_swap (r := 3) (q := 7) (by simp) (by simp) (by simp) (by simp)) ?_
        simp only [AS.swap, swapL, W8_map, List.map_cons, List.map_nil, List.map_append, AV.ren, OB.ren, renL, ← renL_map, renL_app, swN2, Work.rend, freeL_rend _ (rowsV_free _), freeL_rend _ (doneV_free _), List.getD_cons_succ, List.getD_cons_zero, List.set_cons_succ, List.set_cons_zero, Nat.reduceEqDiff, if_true, if_false]
        refine Wk.trans (wk_swap (r := 4) (q := 6) (by simp) (by simp) (by simp) (by simp)) ?_
        simp only [AS.swap, swapL, W8_map, List.map_cons, List.map_nil, List.map_append, AV.ren, OB.ren, renL, ← renL_map, renL_app, swN2, Work.rend, freeL_rend _ (rowsV_free _), freeL_rend _ (doneV_free _), List.getD_cons_succ, List.getD_cons_zero, List.set_cons_succ, List.set_cons_zero, Nat.reduceEqDiff, if_true, if_false]
        have u1 : ∀ m, underL (m + 4) (doneV (s.done ++ [s.rows ++ [s.row]]) ++ [AV.os 3 1 0 1]) = true := fun m => under_snoc (doneV_under _ _) (by simp [AV.under])

        (refine wk_le ?_ ?_ ?_; (focus (simp [W8, leTm, leAV, AV.under, underL, ShS.all, Work.under, u1]; done)); (focus (simp [leL, OB.under, underL, AV.under, ShS.all, Work.under, u1]; done)); (focus (simp; done)))
  · have hjl : j = k.Ps.length := by omega
    subst hjl
    simp (disch := omega) only [SX0, SX1, SX2, SX3, SX4, SX5, SX6, SX7, SX8, SU0, SY0, SY1, Nat.reduceAdd, Nat.reduceMul, Nat.reduceSub, Nat.reduceLeDiff, Nat.reduceEqDiff, Nat.reduceLT, Nat.reduceBEq, ↓reduceIte, Int.reduceLE, Int.reduceLT, Int.reduceToNat, Int.reduceNeg, reduceCtorEq, Int.reduceEq, SF0, SF1, SF2, DHb0, DHb1, DHa0, DCg0, DCe0, DCe1, DCe2, DDb0, DBc0, DBc1, DDe0, DAlh0, DAlv0, DBtc0]
    have hso : shRun k o' = s := by rw [← hsd, List.take_of_length_le (by omega)]
    rw [hso]
    by_cases hemp : s.row = []
    · obtain ⟨e1, e2, e3, e4⟩ := hj2.emp hemp
      have ea : s.all = [] := by unfold ShS.all; rw [if_pos hemp, e1]
      rw [ea]
      exact fin_row (k := 1) (es := []) (by simp only [shL, if_pos hemp]; rfl) rfl ⟨rfl, rfl⟩
    · have ea : s.all = s.done ++ [s.rows ++ [s.row]] := by unfold ShS.all; rw [if_neg hemp]
      have eL : shL k s = [.cells k.cs, .dead, .slab (doneV s.done ++ [.os 3 1 0 (s.rows.length + 1)]), .slab (rowsV s.rows ++ [.os 4 1 0 s.row.length]), .vec 1 (ints s.row)] := if_neg hemp
      have hrl : (ints s.row).length = s.row.length := by simp [ints]
      have hfz : List.map (AV.frz 4 1 (ints s.row)) (rowsV s.rows ++ [AV.os 4 1 0 s.row.length]) = rowsV (s.rows ++ [s.row]) := by
        rw [List.map_append, freeL_frzm _ _ _ (rowsV_free _), rowsV, rowsV, List.map_append]
        simp only [List.map_cons, List.map_nil, AV.frz, if_true, Nat.zero_add, true_and, hrl, Nat.le_refl, List.drop_zero]
        rw [List.take_of_length_le (Nat.le_of_eq hrl)]
        rfl
      have hfd : List.map (AV.frz 4 1 (ints s.row)) (doneV s.done ++ [AV.os 3 1 0 (s.rows.length + 1)]) = doneV s.done ++ [AV.os 3 1 0 (s.rows.length + 1)] := by
        rw [List.map_append, freeL_frzm _ _ _ (doneV_free _)]
        simp [AV.frz]
      have hrl1 : (rowsV (s.rows ++ [s.row])).length = s.rows.length + 1 := by simp [rowsV]
      have hfe : List.map (AV.frz 3 1 ((rowsV (s.rows ++ [s.row])).map fun c => [c])) (doneV s.done ++ [AV.os 3 1 0 (s.rows.length + 1)]) = doneV (s.done ++ [s.rows ++ [s.row]]) := by
        rw [List.map_append, freeL_frzm _ _ _ (doneV_free _), doneV, doneV, List.map_append]
        simp only [List.map_cons, List.map_nil, AV.frz, if_true, Nat.zero_add, true_and, List.length_map, hrl1, Nat.le_refl, List.drop_zero]
        rw [List.take_of_length_le (by simp [hrl1])]
        simp [sheetV, rowsV]
      have fin : ∀ s0 : AS, s0.L = [.cells k.cs, .dead, .slab (doneV s.done ++ [.os 3 1 0 (s.rows.length + 1)]), .slab (rowsV s.rows ++ [.os 4 1 0 s.row.length]), .vec 1 (ints s.row)] → Fin [] 0 (fun r L => r = sheetsV s.all ∧ L = []) s0 (.os 2 1 0 s.all.length) := fun s0 hs0 => by
        refine fin_frz (r := 4) (k := 1) (es := ints s.row) (by rw [hs0]; rfl) (by simp) ?_
        have e0 : (s0.frz 4 1 (ints s.row)).L = [.cells (k.cs.map (AV.frz 4 1 (ints s.row))), .dead, .slab (doneV s.done ++ [.os 3 1 0 (s.rows.length + 1)]), .slab (rowsV (s.rows ++ [s.row])), .dead] := by simp only [AS.frz, hs0, List.map_cons, List.map_nil, OB.frz, hfz, hfd, List.set_cons_succ, List.set_cons_zero]
        generalize s0.frz 4 1 (ints s.row) = s1 at *
        refine fin_unslab (r := 3) (by rw [e0]; rfl) (rowsV_pure _) ?_
        refine fin_frz (r := 3) (k := 1) (es := (rowsV (s.rows ++ [s.row])).map fun c => [c]) (by simp [e0]) (by simp) ?_
        generalize he1 : AS.frz _ 3 1 _ = s2
        have e2 : s2.L[2]? = some (.slab (doneV (s.done ++ [s.rows ++ [s.row]]))) := by
          rw [← he1]
          simp only [AS.frz, e0, List.map_cons, List.map_nil, OB.frz, hfe, List.set_cons_succ, List.set_cons_zero, List.getElem?_cons_succ, List.getElem?_cons_zero]
        have hl2 : 2 < s2.L.length := (List.getElem?_eq_some_iff.1 e2).1
        refine fin_unslab (r := 2) e2 (doneV_pure _) ?_
        refine fin_row (r := 2) (k := 1) (es := (doneV (s.done ++ [s.rows ++ [s.row]])).map fun c => [c]) (by simp [hl2]) (by simp [doneV, ea]) ⟨by simp [ea, sheetsV, doneV], rfl⟩
      exact fin _ eL

end Go.Pc
