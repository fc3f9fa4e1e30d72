/- Plans that are found again from places: one side of a cut, and what is drawn. -/
import Derived.Test.YtokghjmmdnhbeaaWa
import Derived.Test.YtokghjmmdnhbeaaKa
set_option linter.unusedSimpArgs false
set_option linter.unusedVariables false
namespace Go.Pc
open Go Go.Proofs

theorem Box.d1 (b : Box) : (b.cs.drop 1)[0]? = some (.val (.int .i64 b.Y)) := rfl
theorem Box.d2 (b : Box) : (b.cs.drop 2)[0]? = some (.val (.int .i64 b.W)) := rfl
theorem Box.d3 (b : Box) : (b.cs.drop 3)[0]? = some (.val (.int .i64 b.H)) := rfl
theorem DWb0 : type_of% @Box.d1 ∧ type_of% @Box.d2 ∧ type_of% @Box.d3 := ⟨@Box.d1, @Box.d2, @Box.d3⟩

theorem fin_rowt {fx : List Nat} {R : AV → List OB → Prop} {s : AS} {r k n : Nat} {es : List (List AV)} {v : Value} (hL : s.L[r]? = some (.vec k es)) (hn : n = es.length) (hfx : fx = []) (hR : R (.tup [.sl es, .val v]) []) : Fin fx 0 R s (.tup [.os r k 0 n, .val v]) := by
  subst hfx
  refine fin_frz hL (by simp) ?_
  have e : AV.frz r k es (.tup [.os r k 0 n, .val v]) = .tup [.sl es, .val v] := by
    simp only [AV.frz, frzL, if_true, Nat.zero_add, true_and]
    rw [if_pos (by omega), List.drop_zero, List.take_of_length_le (by omega)]
  rw [e]
  exact fin_free rfl hR

/-- One side of a cut. -/
def Place.lowE (op : Int) (q : Place) : Int := if op = 3 then q.box.Y else q.box.X
def Place.highE (op : Int) (q : Place) : Int := if op = 3 then q.box.Y + q.box.H else q.box.X + q.box.W
def crossE (op at_ : Int) (q : Place) : Prop := q.lowE op < at_ ∧ at_ < q.highE op
instance (op at_ : Int) (q : Place) : Decidable (crossE op at_ q) := inferInstanceAs (Decidable (_ ∧ _))
def partL (l : List Place) (op at_ : Int) (fb : Bool) : List Place := if ∀ q ∈ l, ¬ crossE op at_ q then l.filter (fun q => fb == decide (q.highE op ≤ at_)) else []
def partOk (l : List Place) (op at_ : Int) : Bool := decide (∀ q ∈ l, ¬ crossE op at_ q)
theorem partL_sub {l : List Place} {op at_ : Int} {fb : Bool} {q : Place} (h : q ∈ partL l op at_ fb) : q ∈ l := by
  unfold partL at h
  split at h
  · exact (List.mem_filter.1 h).1
  · cases h
theorem partL_len (l : List Place) (op at_ : Int) (fb : Bool) : (partL l op at_ fb).length ≤ l.length := by
  unfold partL
  split
  · exact List.length_filter_le _ _
  · simp
theorem filter_next {α : Type} {f : α → Bool} {l : List α} {i : Nat} {x : α} (h : l[i]? = some x) : (l.take (i + 1)).filter f = (l.take i).filter f ++ (if f x = true then [x] else []) := by
  rw [List.take_add_one, h, List.filter_append]
  simp only [Option.toList, List.filter_cons, List.filter_nil]

theorem e_partS : Enters Try.prog 52 := enters_of Try.func52 (by kernel_rfl) (by kernel_rfl)
set_option maxRecDepth 8000 in
set_option maxHeartbeats 4000000 in
theorem partS_c (l : List Place) (op at_ : Int) (fb : Bool) (hl : l.length ≤ 1048576) (hn : ∀ q ∈ l, q.box.near) : ACalls Try.prog 52 [.sl (l.map Place.cs), .val (.int .i64 op), .val (.int .i64 at_), .val (.bool fb)] [] [] (fun r L => r = .tup [.sl ((partL l op at_ fb).map Place.cs), .val (.bool (partOk l op at_))] ∧ L = []) := by
  refine acalls_tm T_tt Try.func52 rfl e_partS 68 rfl (W8 _ _ _ _ .any .any .any .any (W8 .any .any .any .any .any .any .any .any (W8 .any .any .any .any .any .any .any .any (W8 .any .any .any .any .any .any .any .any (W8 .any .any .any .any .any .any .any .any (W8 .any .any .any .any .any .any .any .any (W8 .any .any .any .any .any .any .any .any (W8 .any .any .any .any .any .any .any .any (W8 .any .any .any .any .any .any .any .any []))))))))) rfl (rv := [.tmp 8, .tmp 9]) rfl (sx_sound (bl := [14]) T_tt _ _ _ ?_)
  simp (disch := omega) only [SX0, SX1, SX2, SX3, SX4, SX5, SX6, SX7, SX8, SU0, SY0, Nat.reduceAdd, Nat.reduceMul, Nat.reduceSub, Nat.reduceLeDiff, Nat.reduceEqDiff, Nat.reduceLT, Nat.reduceBEq, ↓reduceIte, Int.reduceLE, Int.reduceLT, Int.reduceToNat, Int.reduceNeg, reduceCtorEq, Int.reduceEq, SF0, SF1, SF2, DWa0, DLa0, DCg0, DCe0, DCe1, DCe2, DDb0, DBc0, DBc1, DKa0, DHb0, DHb1, DHa0, DDe0, DWb0]
  with_reducible refine awp_loop_h (G := List Place × Nat) 11 61 (fun g => [(10, .os 0 6 0 g.1.length), (11, .val (.int .i64 g.2))]) (fun g => [.vec 6 (g.1.map Place.cs)]) (fun g => g.2 ≤ l.length ∧ (∀ x ∈ l.take g.2, ¬ crossE op at_ x) ∧ g.1.length ≤ g.2 ∧ g.1 = (l.take g.2).filter (fun q => fb == decide (q.highE op ≤ at_))) (fun g => l.length - g.2) ([], 0) ⟨by simp, by simp, by simp, by simp⟩ ?_ (fun g hg => ?_)
  · simp (disch := omega) only [SX0, SX1, SX2, SX3, SX4, SX5, SX6, SX7, SX8, SU0, SY0, Nat.reduceAdd, Nat.reduceMul, Nat.reduceSub, Nat.reduceLeDiff, Nat.reduceEqDiff, Nat.reduceLT, Nat.reduceBEq, ↓reduceIte, Int.reduceLE, Int.reduceLT, Int.reduceToNat, Int.reduceNeg, reduceCtorEq, Int.reduceEq, SF0, SF1, SF2, DWa0, DLa0, DCg0, DCe0, DCe1, DCe2, DDb0, DBc0, DBc1, DKa0, DHb0, DHb1, DHa0, DDe0, DWb0]
    (refine wk_le ?_ ?_ ?_; (focus (simp [W8, leTm, leAV, AV.under, underL]; done)); (focus (simp [leL, OB.under, underL, AV.under]; done)); (focus (simp; done)))
  obtain ⟨m, i⟩ := g
  simp only at hg
  obtain ⟨j1, j2, j3, j4⟩ := hg
  have hm40 : m.length < 2 ^ 40 := by omega
  refine sx_sound (bl := []) T_tt _ _ _ ?_
  simp (disch := omega) only [SX0, SX1, SX2, SX3, SX4, SX5, SX6, SX7, SX8, SU0, SY0, Nat.reduceAdd, Nat.reduceMul, Nat.reduceSub, Nat.reduceLeDiff, Nat.reduceEqDiff, Nat.reduceLT, Nat.reduceBEq, ↓reduceIte, Int.reduceLE, Int.reduceLT, Int.reduceToNat, Int.reduceNeg, reduceCtorEq, Int.reduceEq, SF0, SF1, SF2, DWa0, DLa0, DCg0, DCe0, DCe1, DCe2, DDb0, DBc0, DBc1, DKa0, DHb0, DHb1, DHa0, DDe0, DWb0]
  refine br_dec (fun h2 => ?_) (fun h2 => ?_)
  · obtain ⟨q, hq⟩ := get_lt (l := l) (i := i) (by omega)
    have hqm := List.mem_of_getElem? hq
    have hqn := hn q hqm
    obtain ⟨n1, n2, n3, n4⟩ := hqn
    simp (disch := omega) only [SX0, SX1, SX2, SX3, SX4, SX5, SX6, SX7, SX8, SU0, SY0, Nat.reduceAdd, Nat.reduceMul, Nat.reduceSub, Nat.reduceLeDiff, Nat.reduceEqDiff, Nat.reduceLT, Nat.reduceBEq, ↓reduceIte, Int.reduceLE, Int.reduceLT, Int.reduceToNat, Int.reduceNeg, reduceCtorEq, Int.reduceEq, SF0, SF1, SF2, DWa0, DLa0, DCg0, DCe0, DCe1, DCe2, DDb0, DBc0, DBc1, DKa0, DHb0, DHb1, DHa0, DDe0, DWb0, hq, Place.drop_box, Place.drop_pb]
    repeat' first | with_reducible refine fin_val ⟨?_, rfl⟩ | with_reducible refine br_dec (fun hb => ?_) (fun hb => ?_) | with_reducible refine br_ndec (fun hb => ?_) (fun hb => ?_) | with_reducible refine br_bool (fun hb => ?_) (fun hb => ?_) | with_reducible refine pk_dec (fun hb => ?_) (fun hb => ?_) | with_reducible refine pk_ndec (fun hb => ?_) (fun hb => ?_) | with_reducible refine awp_drawA T_tt mixed (by decide +kernel) (by kernel_rfl) (by kernel_rfl) ?_ | simp (disch := omega) only [SX0, SX1, SX2, SX3, SX4, SX5, SX6, SX7, SX8, SU0, SY0, Nat.reduceAdd, Nat.reduceMul, Nat.reduceSub, Nat.reduceLeDiff, Nat.reduceEqDiff, Nat.reduceLT, Nat.reduceBEq, ↓reduceIte, Int.reduceLE, Int.reduceLT, Int.reduceToNat, Int.reduceNeg, reduceCtorEq, Int.reduceEq, SF0, SF1, SF2, DWa0, DLa0, DCg0, DCe0, DCe1, DCe2, DDb0, DBc0, DBc1, DKa0, DHb0, DHb1, DHa0, DDe0, DWb0, hq, Place.drop_box, Place.drop_pb] | refine req (by omega) ?_
    all_goals have e9 := filter_next (f := fun q : Place => fb == decide (q.highE op ≤ at_)) hq
    all_goals rw [← j4] at e9
    all_goals first
      | (focus
         refine fin_nrm ?_
         simp only [AV.nrm, nrmL]
         have hx : ¬ ∀ q ∈ l, ¬ crossE op at_ q := fun h => h q hqm (by unfold crossE Place.lowE Place.highE; (try split) <;> omega)
         have e1 : partL l op at_ fb = [] := by unfold partL; rw [if_neg hx]
         have e2 : partOk l op at_ = false := by unfold partOk; exact decide_eq_false hx
         rw [e1, e2]
         exact fin_free rfl ⟨rfl, rfl⟩
         done)
      | (focus
         have hc : ¬ crossE op at_ q := by unfold crossE Place.lowE Place.highE; (try split) <;> omega
         have hh : (fb == decide (q.highE op ≤ at_)) = false := by unfold Place.highE; (first | rw [if_pos (by assumption)] | rw [if_neg (by assumption)]); exact beq_eq_false_iff_ne.2 (by assumption)
         rw [hh, if_neg (by simp), List.append_nil] at e9
         refine ⟨(m, i + 1), ⟨by simp only []; omega, take_next hq j2 hc, by simp only []; omega, e9.symm⟩, by simp only []; omega, ?_⟩
         (refine wk_le ?_ ?_ ?_; (focus (simp [W8, leTm, leAV, AV.under, underL]; done)); (focus (simp [leL, OB.under, underL, AV.under]; done)); (focus (simp; done)))
         done)
      | (focus
         have hc : ¬ crossE op at_ q := by unfold crossE Place.lowE Place.highE; (try split) <;> omega
         have hh : (fb == decide (q.highE op ≤ at_)) = true := by unfold Place.highE; (first | rw [if_pos (by assumption)] | rw [if_neg (by assumption)]); exact beq_iff_eq.2 (by assumption)
         rw [hh, if_pos rfl] at e9
         refine ⟨(m ++ [q], i + 1), ⟨by simp only []; omega, take_next hq j2 hc, by simp; omega, e9.symm⟩, by simp only []; omega, ?_⟩
         (refine wk_le ?_ ?_ ?_; (focus (simp [W8, leTm, leAV, AV.under, underL]; done)); (focus (simp [leL, OB.under, underL, AV.under]; done)); (focus (simp; done)))
         done)
      | trace_state
  · have hi : i = l.length := by omega
    rw [hi, List.take_length] at j2 j4
    have e1 : partL l op at_ fb = m := by unfold partL; rw [if_pos j2, j4]
    have e2 : partOk l op at_ = true := by unfold partOk; exact decide_eq_true j2
    rw [e1, e2]
    simp (disch := omega) only [SX0, SX1, SX2, SX3, SX4, SX5, SX6, SX7, SX8, SU0, SY0, Nat.reduceAdd, Nat.reduceMul, Nat.reduceSub, Nat.reduceLeDiff, Nat.reduceEqDiff, Nat.reduceLT, Nat.reduceBEq, ↓reduceIte, Int.reduceLE, Int.reduceLT, Int.reduceToNat, Int.reduceNeg, reduceCtorEq, Int.reduceEq, SF0, SF1, SF2, DWa0, DLa0, DCg0, DCe0, DCe1, DCe2, DDb0, DBc0, DBc1, DKa0, DHb0, DHb1, DHa0, DDe0, DWb0]
    exact fin_rowt rfl (by simp) rfl ⟨rfl, rfl⟩

end Go.Pc
