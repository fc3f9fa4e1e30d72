/- Plans that are found again from places: planFor ends. -/
import Derived.Test.YtokghjmmdnhbeaaWb
set_option linter.unusedSimpArgs false
set_option linter.unusedVariables false
namespace Go.Pc
open Go Go.Proofs

/-- What is told of planFor. -/
def PlanForC (n : Nat) : Prop := ∀ (l : List Place) (b : Box), l.length ≤ 1048576 → (∀ q ∈ l, q.box.near) → (0 ≤ b.X ∧ 0 ≤ b.W ∧ b.X + b.W ≤ 500) → (0 ≤ b.Y ∧ 0 ≤ b.H ∧ b.Y + b.H ≤ 500) → b.W + b.H ≤ n →
  ∃ (q : Plan) (ok : Bool), ACalls Try.prog 33 [.sl (l.map Place.cs), .agg b.cs] [] [] (fun r L => r = .tup [.agg q.cs, .val (.bool ok)] ∧ L = [])

theorem e_bothSidesS : Enters Try.prog 53 := enters_of Try.func53 (by kernel_rfl) (by kernel_rfl)
def bothBox (b : Box) (op at_ : Int) : Box × Box := if op = 3 then (⟨b.X, b.Y, b.W, at_⟩, ⟨b.X, b.Y + at_, b.W, b.H - at_⟩) else (⟨b.X, b.Y, at_, b.H⟩, ⟨b.X + at_, b.Y, b.W - at_, b.H⟩)
set_option maxRecDepth 8000 in
set_option maxHeartbeats 4000000 in
theorem bothSidesS_w (l m : List Place) (b : Box) (op at_ : Int) (p1 p2 : Plan) (ok1 ok2 : Bool) (hbx : 0 ≤ b.X ∧ 0 ≤ b.W ∧ b.X + b.W ≤ 500) (hby : 0 ≤ b.Y ∧ 0 ≤ b.H ∧ b.Y + b.H ≤ 500)
    (hat : 1 ≤ at_ ∧ (op = 3 → at_ < b.H) ∧ (op ≠ 3 → at_ < b.W))
    (A1 : ACalls Try.prog 33 [.sl (l.map Place.cs), .agg (bothBox b op at_).1.cs] [] [] (fun r L => r = .tup [.agg p1.cs, .val (.bool ok1)] ∧ L = []))
    (A2 : ACalls Try.prog 33 [.sl (m.map Place.cs), .agg (bothBox b op at_).2.cs] [] [] (fun r L => r = .tup [.agg p2.cs, .val (.bool ok2)] ∧ L = [])) :
    ACalls Try.prog 53 [.sl (l.map Place.cs), .sl (m.map Place.cs), .agg b.cs, .val (.int .i64 op), .val (.int .i64 at_)] [] [] (fun r L => r = .tup [.agg (if (ok1 && ok2) = true then Plan.mk op at_ 0 false [p1, p2] else .zero).cs, .val (.bool (ok1 && ok2))] ∧ L = []) := by
  obtain ⟨X, Y, W, H'⟩ := b
  simp only at hbx hby hat
  by_cases h1 : op = 3
  · have h2 := hat.2.1 h1
    rw [bothBox, if_pos h1] at A1 A2
    simp only [Box.cs] at A1 A2
    cases ok1 <;> cases ok2
    case pos.true.true =>
      refine acalls_tm T_tt Try.func53 rfl e_bothSidesS 82 rfl (W8 _ _ _ _ _ .any .any .any (W8 .any .any .any .any .any .any .any .any (W8 .any .any .any .any .any .any .any .any (W8 .any .any .any .any .any .any .any .any (W8 .any .any .any .any .any .any .any .any (W8 .any .any .any .any .any .any .any .any (W8 .any .any .any .any .any .any .any .any (W8 .any .any .any .any .any .any .any .any (W8 .any .any .any .any .any .any .any .any (W8 .any .any .any .any .any .any .any .any [.any, .any, .any, .any, .any, .any, .any])))))))))) rfl (rv := [.cell 10 28, .tmp 11]) rfl (sx_sound (bl := []) T_tt _ _ _ ?_)
      simp (disch := omega) only [SX0, SX1, SX2, SX3, SX4, SX5, SX6, SX7, SX8, SU0, SY0, Nat.reduceAdd, Nat.reduceMul, Nat.reduceSub, Nat.reduceLeDiff, Nat.reduceEqDiff, Nat.reduceLT, Nat.reduceBEq, ↓reduceIte, Int.reduceLE, Int.reduceLT, Int.reduceToNat, Int.reduceNeg, reduceCtorEq, Int.reduceEq, SF0, SF1, SF2, DWb0, DWa0, DLa0, DCg0, DCe0, DCe1, DCe2, DDb0, DBc0, DBc1, DKa0, DHb0, DHb1, DHa0, DDe0, Box.cs, h1]
      refine acall_one A1 rfl (by simp [AV.free, freeL, Plan.free]) ?_
      simp (disch := omega) only [SX0, SX1, SX2, SX3, SX4, SX5, SX6, SX7, SX8, SU0, SY0, Nat.reduceAdd, Nat.reduceMul, Nat.reduceSub, Nat.reduceLeDiff, Nat.reduceEqDiff, Nat.reduceLT, Nat.reduceBEq, ↓reduceIte, Int.reduceLE, Int.reduceLT, Int.reduceToNat, Int.reduceNeg, reduceCtorEq, Int.reduceEq, SF0, SF1, SF2, DWb0, DWa0, DLa0, DCg0, DCe0, DCe1, DCe2, DDb0, DBc0, DBc1, DKa0, DHb0, DHb1, DHa0, DDe0, Box.cs]
      refine acall_one A2 rfl (by simp [AV.free, freeL, Plan.free]) ?_
      simp (disch := omega) only [SX0, SX1, SX2, SX3, SX4, SX5, SX6, SX7, SX8, SU0, SY0, Nat.reduceAdd, Nat.reduceMul, Nat.reduceSub, Nat.reduceLeDiff, Nat.reduceEqDiff, Nat.reduceLT, Nat.reduceBEq, ↓reduceIte, Int.reduceLE, Int.reduceLT, Int.reduceToNat, Int.reduceNeg, reduceCtorEq, Int.reduceEq, SF0, SF1, SF2, DWb0, DWa0, DLa0, DCg0, DCe0, DCe1, DCe2, DDb0, DBc0, DBc1, DKa0, DHb0, DHb1, DHa0, DDe0]
      refine fin_free (by simp [AV.free, freeL, Plan.free]) ⟨?_, rfl⟩
      simp [Plan.cs_eq (Plan.mk _ _ _ _ _), Plan.op, Plan.at_, Plan.pa, Plan.tu, Plan.ks, h1]
    all_goals
      refine acalls_tm T_tt Try.func53 rfl e_bothSidesS 82 rfl (W8 _ _ _ _ _ .any .any .any (W8 .any .any .any .any .any .any .any .any (W8 .any .any .any .any .any .any .any .any (W8 .any .any .any .any .any .any .any .any (W8 .any .any .any .any .any .any .any .any (W8 .any .any .any .any .any .any .any .any (W8 .any .any .any .any .any .any .any .any (W8 .any .any .any .any .any .any .any .any (W8 .any .any .any .any .any .any .any .any (W8 .any .any .any .any .any .any .any .any [.any, .any, .any, .any, .any, .any, .any])))))))))) rfl (rv := [.cell 10 28, .tmp 11]) rfl (sx_sound (bl := []) T_tt _ _ _ ?_)
      simp (disch := omega) only [SX0, SX1, SX2, SX3, SX4, SX5, SX6, SX7, SX8, SU0, SY0, Nat.reduceAdd, Nat.reduceMul, Nat.reduceSub, Nat.reduceLeDiff, Nat.reduceEqDiff, Nat.reduceLT, Nat.reduceBEq, ↓reduceIte, Int.reduceLE, Int.reduceLT, Int.reduceToNat, Int.reduceNeg, reduceCtorEq, Int.reduceEq, SF0, SF1, SF2, DWb0, DWa0, DLa0, DCg0, DCe0, DCe1, DCe2, DDb0, DBc0, DBc1, DKa0, DHb0, DHb1, DHa0, DDe0, Box.cs, h1]
      refine acall_one A1 rfl (by simp [AV.free, freeL, Plan.free]) ?_
      simp (disch := omega) only [SX0, SX1, SX2, SX3, SX4, SX5, SX6, SX7, SX8, SU0, SY0, Nat.reduceAdd, Nat.reduceMul, Nat.reduceSub, Nat.reduceLeDiff, Nat.reduceEqDiff, Nat.reduceLT, Nat.reduceBEq, ↓reduceIte, Int.reduceLE, Int.reduceLT, Int.reduceToNat, Int.reduceNeg, reduceCtorEq, Int.reduceEq, SF0, SF1, SF2, DWb0, DWa0, DLa0, DCg0, DCe0, DCe1, DCe2, DDb0, DBc0, DBc1, DKa0, DHb0, DHb1, DHa0, DDe0, Box.cs]
      refine acall_one A2 rfl (by simp [AV.free, freeL, Plan.free]) ?_
      simp (disch := omega) only [SX0, SX1, SX2, SX3, SX4, SX5, SX6, SX7, SX8, SU0, SY0, Nat.reduceAdd, Nat.reduceMul, Nat.reduceSub, Nat.reduceLeDiff, Nat.reduceEqDiff, Nat.reduceLT, Nat.reduceBEq, ↓reduceIte, Int.reduceLE, Int.reduceLT, Int.reduceToNat, Int.reduceNeg, reduceCtorEq, Int.reduceEq, SF0, SF1, SF2, DWb0, DWa0, DLa0, DCg0, DCe0, DCe1, DCe2, DDb0, DBc0, DBc1, DKa0, DHb0, DHb1, DHa0, DDe0]
      refine fin_nrm ?_
      simp only [AV.nrm, nrmL]
      exact fin_free rfl ⟨by simp [Plan.zero_cs], rfl⟩
  · have h2 := hat.2.2 h1
    rw [bothBox, if_neg h1] at A1 A2
    simp only [Box.cs] at A1 A2
    cases ok1 <;> cases ok2
    case neg.true.true =>
      refine acalls_tm T_tt Try.func53 rfl e_bothSidesS 82 rfl (W8 _ _ _ _ _ .any .any .any (W8 .any .any .any .any .any .any .any .any (W8 .any .any .any .any .any .any .any .any (W8 .any .any .any .any .any .any .any .any (W8 .any .any .any .any .any .any .any .any (W8 .any .any .any .any .any .any .any .any (W8 .any .any .any .any .any .any .any .any (W8 .any .any .any .any .any .any .any .any (W8 .any .any .any .any .any .any .any .any (W8 .any .any .any .any .any .any .any .any [.any, .any, .any, .any, .any, .any, .any])))))))))) rfl (rv := [.cell 10 28, .tmp 11]) rfl (sx_sound (bl := []) T_tt _ _ _ ?_)
      simp (disch := omega) only [SX0, SX1, SX2, SX3, SX4, SX5, SX6, SX7, SX8, SU0, SY0, Nat.reduceAdd, Nat.reduceMul, Nat.reduceSub, Nat.reduceLeDiff, Nat.reduceEqDiff, Nat.reduceLT, Nat.reduceBEq, ↓reduceIte, Int.reduceLE, Int.reduceLT, Int.reduceToNat, Int.reduceNeg, reduceCtorEq, Int.reduceEq, SF0, SF1, SF2, DWb0, DWa0, DLa0, DCg0, DCe0, DCe1, DCe2, DDb0, DBc0, DBc1, DKa0, DHb0, DHb1, DHa0, DDe0, Box.cs, h1]
      refine acall_one A1 rfl (by simp [AV.free, freeL, Plan.free]) ?_
      simp (disch := omega) only [SX0, SX1, SX2, SX3, SX4, SX5, SX6, SX7, SX8, SU0, SY0, Nat.reduceAdd, Nat.reduceMul, Nat.reduceSub, Nat.reduceLeDiff, Nat.reduceEqDiff, Nat.reduceLT, Nat.reduceBEq, ↓reduceIte, Int.reduceLE, Int.reduceLT, Int.reduceToNat, Int.reduceNeg, reduceCtorEq, Int.reduceEq, SF0, SF1, SF2, DWb0, DWa0, DLa0, DCg0, DCe0, DCe1, DCe2, DDb0, DBc0, DBc1, DKa0, DHb0, DHb1, DHa0, DDe0, Box.cs]
      refine acall_one A2 rfl (by simp [AV.free, freeL, Plan.free]) ?_
      simp (disch := omega) only [SX0, SX1, SX2, SX3, SX4, SX5, SX6, SX7, SX8, SU0, SY0, Nat.reduceAdd, Nat.reduceMul, Nat.reduceSub, Nat.reduceLeDiff, Nat.reduceEqDiff, Nat.reduceLT, Nat.reduceBEq, ↓reduceIte, Int.reduceLE, Int.reduceLT, Int.reduceToNat, Int.reduceNeg, reduceCtorEq, Int.reduceEq, SF0, SF1, SF2, DWb0, DWa0, DLa0, DCg0, DCe0, DCe1, DCe2, DDb0, DBc0, DBc1, DKa0, DHb0, DHb1, DHa0, DDe0]
      refine fin_free (by simp [AV.free, freeL, Plan.free]) ⟨?_, rfl⟩
      simp [Plan.cs_eq (Plan.mk _ _ _ _ _), Plan.op, Plan.at_, Plan.pa, Plan.tu, Plan.ks]
    all_goals
      refine acalls_tm T_tt Try.func53 rfl e_bothSidesS 82 rfl (W8 _ _ _ _ _ .any .any .any (W8 .any .any .any .any .any .any .any .any (W8 .any .any .any .any .any .any .any .any (W8 .any .any .any .any .any .any .any .any (W8 .any .any .any .any .any .any .any .any (W8 .any .any .any .any .any .any .any .any (W8 .any .any .any .any .any .any .any .any (W8 .any .any .any .any .any .any .any .any (W8 .any .any .any .any .any .any .any .any (W8 .any .any .any .any .any .any .any .any [.any, .any, .any, .any, .any, .any, .any])))))))))) rfl (rv := [.cell 10 28, .tmp 11]) rfl (sx_sound (bl := []) T_tt _ _ _ ?_)
      simp (disch := omega) only [SX0, SX1, SX2, SX3, SX4, SX5, SX6, SX7, SX8, SU0, SY0, Nat.reduceAdd, Nat.reduceMul, Nat.reduceSub, Nat.reduceLeDiff, Nat.reduceEqDiff, Nat.reduceLT, Nat.reduceBEq, ↓reduceIte, Int.reduceLE, Int.reduceLT, Int.reduceToNat, Int.reduceNeg, reduceCtorEq, Int.reduceEq, SF0, SF1, SF2, DWb0, DWa0, DLa0, DCg0, DCe0, DCe1, DCe2, DDb0, DBc0, DBc1, DKa0, DHb0, DHb1, DHa0, DDe0, Box.cs, h1]
      refine acall_one A1 rfl (by simp [AV.free, freeL, Plan.free]) ?_
      simp (disch := omega) only [SX0, SX1, SX2, SX3, SX4, SX5, SX6, SX7, SX8, SU0, SY0, Nat.reduceAdd, Nat.reduceMul, Nat.reduceSub, Nat.reduceLeDiff, Nat.reduceEqDiff, Nat.reduceLT, Nat.reduceBEq, ↓reduceIte, Int.reduceLE, Int.reduceLT, Int.reduceToNat, Int.reduceNeg, reduceCtorEq, Int.reduceEq, SF0, SF1, SF2, DWb0, DWa0, DLa0, DCg0, DCe0, DCe1, DCe2, DDb0, DBc0, DBc1, DKa0, DHb0, DHb1, DHa0, DDe0, Box.cs]
      refine acall_one A2 rfl (by simp [AV.free, freeL, Plan.free]) ?_
      simp (disch := omega) only [SX0, SX1, SX2, SX3, SX4, SX5, SX6, SX7, SX8, SU0, SY0, Nat.reduceAdd, Nat.reduceMul, Nat.reduceSub, Nat.reduceLeDiff, Nat.reduceEqDiff, Nat.reduceLT, Nat.reduceBEq, ↓reduceIte, Int.reduceLE, Int.reduceLT, Int.reduceToNat, Int.reduceNeg, reduceCtorEq, Int.reduceEq, SF0, SF1, SF2, DWb0, DWa0, DLa0, DCg0, DCe0, DCe1, DCe2, DDb0, DBc0, DBc1, DKa0, DHb0, DHb1, DHa0, DDe0]
      refine fin_nrm ?_
      simp only [AV.nrm, nrmL]
      exact fin_free rfl ⟨by simp [Plan.zero_cs], rfl⟩
theorem bothSidesS_c (n : Nat) (H : PlanForC n) (l m : List Place) (b : Box) (op at_ : Int) (hl : l.length ≤ 1048576) (hm : m.length ≤ 1048576) (hln : ∀ q ∈ l, q.box.near) (hmn : ∀ q ∈ m, q.box.near) (hbx : 0 ≤ b.X ∧ 0 ≤ b.W ∧ b.X + b.W ≤ 500) (hby : 0 ≤ b.Y ∧ 0 ≤ b.H ∧ b.Y + b.H ≤ 500) (hn : b.W + b.H ≤ n + 1)
    (hat : 1 ≤ at_ ∧ (op = 3 → at_ < b.H) ∧ (op ≠ 3 → at_ < b.W)) : ∃ (q : Plan) (ok : Bool), ACalls Try.prog 53 [.sl (l.map Place.cs), .sl (m.map Place.cs), .agg b.cs, .val (.int .i64 op), .val (.int .i64 at_)] [] [] (fun r L => r = .tup [.agg q.cs, .val (.bool ok)] ∧ L = []) := by
  have hb : ((0 ≤ (bothBox b op at_).1.X ∧ 0 ≤ (bothBox b op at_).1.W ∧ (bothBox b op at_).1.X + (bothBox b op at_).1.W ≤ 500) ∧ (0 ≤ (bothBox b op at_).1.Y ∧ 0 ≤ (bothBox b op at_).1.H ∧ (bothBox b op at_).1.Y + (bothBox b op at_).1.H ≤ 500) ∧ (bothBox b op at_).1.W + (bothBox b op at_).1.H ≤ n) ∧ ((0 ≤ (bothBox b op at_).2.X ∧ 0 ≤ (bothBox b op at_).2.W ∧ (bothBox b op at_).2.X + (bothBox b op at_).2.W ≤ 500) ∧ (0 ≤ (bothBox b op at_).2.Y ∧ 0 ≤ (bothBox b op at_).2.H ∧ (bothBox b op at_).2.Y + (bothBox b op at_).2.H ≤ 500) ∧ (bothBox b op at_).2.W + (bothBox b op at_).2.H ≤ n) := by
    unfold bothBox
    by_cases h1 : op = 3
    · have h2 := hat.2.1 h1
      rw [if_pos h1]; simp only; omega
    · have h2 := hat.2.2 h1
      rw [if_neg h1]; simp only; omega
  obtain ⟨p1, ok1, A1⟩ := H l _ hl hln hb.1.1 hb.1.2.1 hb.1.2.2
  obtain ⟨p2, ok2, A2⟩ := H m _ hm hmn hb.2.1 hb.2.2.1 hb.2.2.2
  exact ⟨_, _, bothSidesS_w l m b op at_ p1 p2 ok1 ok2 hbx hby hat A1 A2⟩

theorem foldl_in {op at_ : Int} : ∀ {l : List Place} {S : List Int}, at_ ∈ S → l.foldl (edgeStep op at_) S = S
  | [], S, h => rfl
  | q :: l, S, h => by
    have e : edgeStep op at_ S q = S := by unfold edgeStep; exact if_neg fun hh => hh.2 h
    rw [List.foldl_cons, e, foldl_in h]
theorem foldl_len {op at_ : Int} : ∀ {l : List Place} {S : List Int}, (l.foldl (edgeStep op at_) S).length ≤ S.length + 1
  | [], S => by simp
  | q :: l, S => by
    rw [List.foldl_cons]
    by_cases h : meetsE op at_ q ∧ at_ ∉ S
    · have e : edgeStep op at_ S q = S ++ [at_] := by unfold edgeStep; exact if_pos h
      rw [e, foldl_in (by simp)]; simp
    · have e : edgeStep op at_ S q = S := by unfold edgeStep; exact if_neg h
      rw [e]; exact foldl_len
theorem edgesN_len (l : List Place) (op fr : Int) : ∀ n, (edgesN l op fr n).length ≤ n
  | 0 => by simp [edgesN]
  | n + 1 => Nat.le_trans foldl_len (Nat.succ_le_succ (edgesN_len l op fr n))
theorem edgesL_len (l : List Place) (op fr to : Int) : (edgesL l op fr to).length ≤ (to - fr - 1).toNat := edgesN_len _ _ _ _
theorem Place.t1 (q : Place) : (q.cs.drop 1)[0]? = some (.val (.bool q.tu)) := rfl
theorem DWc0 : type_of% @Place.t1 := @Place.t1

def frP (b : Box) (g : Nat) : Int := if g = 1 then b.Y else b.X
noncomputable def SP (l : List Place) (b : Box) (g : Nat) : List Int := edgesL l (2 + (g : Int)) (frP b g) (if g = 1 then b.Y + b.H else b.X + b.W)
/-- The first cut that crosses no place. -/
def HitP (l : List Place) (b : Box) (g : Nat) (x : Int) : Prop := ∃ i, g < 2 ∧ (SP l b g)[i]? = some x ∧ partOk l (2 + (g : Int)) x = true ∧ (∀ (i' : Nat) (x' : Int), i' < i → (SP l b g)[i']? = some x' → ¬ partOk l (2 + (g : Int)) x' = true) ∧ ∀ (g' i' : Nat) (x' : Int), g' < g → (SP l b g')[i']? = some x' → ¬ partOk l (2 + (g' : Int)) x' = true
theorem HitP.uniq {l : List Place} {b : Box} {g g' : Nat} {x x' : Int} (h : HitP l b g x) (h' : HitP l b g' x') : g = g' ∧ x = x' := by
  obtain ⟨i, h1, h2, h3, h4, h5⟩ := h
  obtain ⟨i', k1, k2, k3, k4, k5⟩ := h'
  have e : g = g' := by
    rcases Nat.lt_trichotomy g g' with h | h | h
    · exact absurd h3 (k5 g i x h h2)
    · exact h
    · exact absurd k3 (h5 g' i' x' h k2)
  subst e
  refine ⟨rfl, ?_⟩
  rcases Nat.lt_trichotomy i i' with h | h | h
  · exact absurd h3 (k4 i x h h2)
  · subst h; rw [h2] at k2; exact Option.some.inj k2
  · exact absurd k3 (h4 i' x' h k2)

theorem e_planForS : Enters Try.prog 33 := enters_of Try.func33 (by kernel_rfl) (by kernel_rfl)
set_option maxRecDepth 8000 in
set_option maxHeartbeats 4000000 in
theorem planForS_zero (l : List Place) (b : Box) (h1 : l.length = 0) : ACalls Try.prog 33 [.sl (l.map Place.cs), .agg b.cs] [] [] (fun r L => r = .tup [.agg Plan.zero.cs, .val (.bool true)] ∧ L = []) := by
  have h1' : (l.length : Int) = 0 := by omega
  refine acalls_tm T_tt Try.func33 rfl e_planForS 103 rfl (W8 _ _ .any .any .any .any .any .any (W8 .any .any .any .any .any .any .any .any (W8 .any .any .any .any .any .any .any .any (W8 .any .any .any .any .any .any .any .any (W8 .any .any .any .any .any .any .any .any (W8 .any .any .any .any .any .any .any .any (W8 .any .any .any .any .any .any .any .any (W8 .any .any .any .any .any .any .any .any (W8 .any .any .any .any .any .any .any .any (W8 .any .any .any .any .any .any .any .any (W8 .any .any .any .any .any .any .any .any (W8 .any .any .any .any .any .any .any .any (W8 .any .any .any .any .any .any .any .any [.any]))))))))))))) rfl (rv := [.cell 4 28, .tmp 5]) rfl (sx_sound (bl := []) T_tt _ _ _ ?_)
  simp (disch := omega) only [SX0, SX1, SX2, SX3, SX4, SX5, SX6, SX7, SX8, SU0, SY0, Nat.reduceAdd, Nat.reduceMul, Nat.reduceSub, Nat.reduceLeDiff, Nat.reduceEqDiff, Nat.reduceLT, Nat.reduceBEq, ↓reduceIte, Int.reduceLE, Int.reduceLT, Int.reduceToNat, Int.reduceNeg, reduceCtorEq, Int.reduceEq, SF0, SF1, SF2, DWb0, DWa0, DLa0, DCg0, DCe0, DCe1, DCe2, DDb0, DBc0, DBc1, DKa0, DHb0, DHb1, DHa0, DDe0, DWc0, h1']
  refine fin_nrm ?_
  simp only [AV.nrm, nrmL]
  exact fin_free rfl ⟨by rw [Plan.zero_cs], rfl⟩

set_option maxRecDepth 8000 in
set_option maxHeartbeats 4000000 in
theorem planForS_one (l : List Place) (b : Box) (q0 : Place) (hq0 : l[0]? = some q0) (hne : l.length = 1 ∧ q0.box = b) : ACalls Try.prog 33 [.sl (l.map Place.cs), .agg b.cs] [] [] (fun r L => r = .tup [.agg (Plan.mk 1 0 q0.pa q0.tu []).cs, .val (.bool true)] ∧ L = []) := by
  have h2' : (l.length : Int) = 1 := by have := hne.1; omega
  refine acalls_tm T_tt Try.func33 rfl e_planForS 103 rfl (W8 _ _ .any .any .any .any .any .any (W8 .any .any .any .any .any .any .any .any (W8 .any .any .any .any .any .any .any .any (W8 .any .any .any .any .any .any .any .any (W8 .any .any .any .any .any .any .any .any (W8 .any .any .any .any .any .any .any .any (W8 .any .any .any .any .any .any .any .any (W8 .any .any .any .any .any .any .any .any (W8 .any .any .any .any .any .any .any .any (W8 .any .any .any .any .any .any .any .any (W8 .any .any .any .any .any .any .any .any (W8 .any .any .any .any .any .any .any .any (W8 .any .any .any .any .any .any .any .any [.any]))))))))))))) rfl (rv := [.cell 4 28, .tmp 5]) rfl (sx_sound (bl := []) T_tt _ _ _ ?_)
  simp (disch := omega) only [SX0, SX1, SX2, SX3, SX4, SX5, SX6, SX7, SX8, SU0, SY0, Nat.reduceAdd, Nat.reduceMul, Nat.reduceSub, Nat.reduceLeDiff, Nat.reduceEqDiff, Nat.reduceLT, Nat.reduceBEq, ↓reduceIte, Int.reduceLE, Int.reduceLT, Int.reduceToNat, Int.reduceNeg, reduceCtorEq, Int.reduceEq, SF0, SF1, SF2, DWb0, DWa0, DLa0, DCg0, DCe0, DCe1, DCe2, DDb0, DBc0, DBc1, DKa0, DHb0, DHb1, DHa0, DDe0, DWc0]
  refine br_dec (fun h0 => absurd h0 (by omega)) (fun _ => ?_)
  simp (disch := omega) only [SX0, SX1, SX2, SX3, SX4, SX5, SX6, SX7, SX8, SU0, SY0, Nat.reduceAdd, Nat.reduceMul, Nat.reduceSub, Nat.reduceLeDiff, Nat.reduceEqDiff, Nat.reduceLT, Nat.reduceBEq, ↓reduceIte, Int.reduceLE, Int.reduceLT, Int.reduceToNat, Int.reduceNeg, reduceCtorEq, Int.reduceEq, SF0, SF1, SF2, DWb0, DWa0, DLa0, DCg0, DCe0, DCe1, DCe2, DDb0, DBc0, DBc1, DKa0, DHb0, DHb1, DHa0, DDe0, DWc0, hq0, Place.drop_box, Place.drop_pb]
  refine awp_drawA T_tt mixed (by decide +kernel) (by kernel_rfl) (by kernel_rfl) ?_
  simp (disch := omega) only [SX0, SX1, SX2, SX3, SX4, SX5, SX6, SX7, SX8, SU0, SY0, Nat.reduceAdd, Nat.reduceMul, Nat.reduceSub, Nat.reduceLeDiff, Nat.reduceEqDiff, Nat.reduceLT, Nat.reduceBEq, ↓reduceIte, Int.reduceLE, Int.reduceLT, Int.reduceToNat, Int.reduceNeg, reduceCtorEq, Int.reduceEq, SF0, SF1, SF2, DWb0, DWa0, DLa0, DCg0, DCe0, DCe1, DCe2, DDb0, DBc0, DBc1, DKa0, DHb0, DHb1, DHa0, DDe0, DWc0, hq0, h2', hne.2, Place.drop_box, Place.drop_pb, eq_self, decide_true]
  refine awp_float (bl := []) T_tt mixed [0, 1] [0, 1, 2, 3, 4, 5, 6, 7, 8] [(9, [(0, .f 30), (1, .f 31), (2, .f 32), (3, .f 33), (4, .f 34), (5, .f 35), (6, .f 36), (7, .f 37), (8, .f 38)]), (10, [])] [] (by kernel_rfl) (by kernel_rfl) ?_
  simp (disch := omega) only [SX0, SX1, SX2, SX3, SX4, SX5, SX6, SX7, SX8, SU0, SY0, Nat.reduceAdd, Nat.reduceMul, Nat.reduceSub, Nat.reduceLeDiff, Nat.reduceEqDiff, Nat.reduceLT, Nat.reduceBEq, ↓reduceIte, Int.reduceLE, Int.reduceLT, Int.reduceToNat, Int.reduceNeg, reduceCtorEq, Int.reduceEq, SF0, SF1, SF2, DWb0, DWa0, DLa0, DCg0, DCe0, DCe1, DCe2, DDb0, DBc0, DBc1, DKa0, DHb0, DHb1, DHa0, DDe0, DWc0, hq0]
  refine fin_nrm ?_
  simp only [AV.nrm, nrmL]
  exact fin_free rfl ⟨by simp [Plan.cs_eq (Plan.mk _ _ _ _ _), Plan.op, Plan.at_, Plan.pa, Plan.tu, Plan.ks], rfl⟩

set_option maxRecDepth 8000 in
set_option maxHeartbeats 8000000 in
theorem planForS_w (l : List Place) (b : Box) (hl : l.length ≤ 1048576) (hln : ∀ q ∈ l, q.box.near) (hbx : 0 ≤ b.X ∧ 0 ≤ b.W ∧ b.X + b.W ≤ 500) (hby : 0 ≤ b.Y ∧ 0 ≤ b.H ∧ b.Y + b.H ≤ 500) (h1 : ¬ l.length = 0) (q0 : Place) (hq0 : l[0]? = some q0) (hne : ¬ (l.length = 1 ∧ q0.box = b)) (q : Plan) (ok : Bool) (hQ : ∀ g x, HitP l b g x → ACalls Try.prog 53 [.sl ((partL l (2 + (g : Int)) x true).map Place.cs), .sl ((partL l (2 + (g : Int)) x false).map Place.cs), .agg b.cs, .val (.int .i64 (2 + (g : Int))), .val (.int .i64 (x - frP b g))] [] [] (fun r L => r = .tup [.agg q.cs, .val (.bool ok)] ∧ L = [])) (hN : (¬ ∃ g x, HitP l b g x) → q = .zero ∧ ok = false) : ACalls Try.prog 33 [.sl (l.map Place.cs), .agg b.cs] [] [] (fun r L => r = .tup [.agg q.cs, .val (.bool ok)] ∧ L = []) := by
  have h1' : ¬ (l.length : Int) = 0 := by omega
  refine acalls_tm T_tt Try.func33 rfl e_planForS 103 rfl (W8 _ _ .any .any .any .any .any .any (W8 .any .any .any .any .any .any .any .any (W8 .any .any .any .any .any .any .any .any (W8 .any .any .any .any .any .any .any .any (W8 .any .any .any .any .any .any .any .any (W8 .any .any .any .any .any .any .any .any (W8 .any .any .any .any .any .any .any .any (W8 .any .any .any .any .any .any .any .any (W8 .any .any .any .any .any .any .any .any (W8 .any .any .any .any .any .any .any .any (W8 .any .any .any .any .any .any .any .any (W8 .any .any .any .any .any .any .any .any (W8 .any .any .any .any .any .any .any .any [.any]))))))))))))) rfl (rv := [.cell 4 28, .tmp 5]) rfl (sx_sound (bl := []) T_tt _ _ _ ?_)
  simp (disch := omega) only [SX0, SX1, SX2, SX3, SX4, SX5, SX6, SX7, SX8, SU0, SY0, Nat.reduceAdd, Nat.reduceMul, Nat.reduceSub, Nat.reduceLeDiff, Nat.reduceEqDiff, Nat.reduceLT, Nat.reduceBEq, ↓reduceIte, Int.reduceLE, Int.reduceLT, Int.reduceToNat, Int.reduceNeg, reduceCtorEq, Int.reduceEq, SF0, SF1, SF2, DWb0, DWa0, DLa0, DCg0, DCe0, DCe1, DCe2, DDb0, DBc0, DBc1, DKa0, DHb0, DHb1, DHa0, DDe0, DWc0]
  refine br_dec (fun h0 => absurd h0 h1') (fun _ => ?_)
  simp (disch := omega) only [SX0, SX1, SX2, SX3, SX4, SX5, SX6, SX7, SX8, SU0, SY0, Nat.reduceAdd, Nat.reduceMul, Nat.reduceSub, Nat.reduceLeDiff, Nat.reduceEqDiff, Nat.reduceLT, Nat.reduceBEq, ↓reduceIte, Int.reduceLE, Int.reduceLT, Int.reduceToNat, Int.reduceNeg, reduceCtorEq, Int.reduceEq, SF0, SF1, SF2, DWb0, DWa0, DLa0, DCg0, DCe0, DCe1, DCe2, DDb0, DBc0, DBc1, DKa0, DHb0, DHb1, DHa0, DDe0, DWc0, hq0, Place.drop_box, Place.drop_pb]
  refine awp_drawA T_tt mixed (by decide +kernel) (by kernel_rfl) (by kernel_rfl) ?_
  simp (disch := omega) only [SX0, SX1, SX2, SX3, SX4, SX5, SX6, SX7, SX8, SU0, SY0, Nat.reduceAdd, Nat.reduceMul, Nat.reduceSub, Nat.reduceLeDiff, Nat.reduceEqDiff, Nat.reduceLT, Nat.reduceBEq, ↓reduceIte, Int.reduceLE, Int.reduceLT, Int.reduceToNat, Int.reduceNeg, reduceCtorEq, Int.reduceEq, SF0, SF1, SF2, DWb0, DWa0, DLa0, DCg0, DCe0, DCe1, DCe2, DDb0, DBc0, DBc1, DKa0, DHb0, DHb1, DHa0, DDe0, DWc0, hq0, Place.drop_box, Place.drop_pb]
  refine br_dec (fun h2 => ?_) (fun h2 => ?_)
  · simp (disch := omega) only [SX0, SX1, SX2, SX3, SX4, SX5, SX6, SX7, SX8, SU0, SY0, Nat.reduceAdd, Nat.reduceMul, Nat.reduceSub, Nat.reduceLeDiff, Nat.reduceEqDiff, Nat.reduceLT, Nat.reduceBEq, ↓reduceIte, Int.reduceLE, Int.reduceLT, Int.reduceToNat, Int.reduceNeg, reduceCtorEq, Int.reduceEq, SF0, SF1, SF2, DWb0, DWa0, DLa0, DCg0, DCe0, DCe1, DCe2, DDb0, DBc0, DBc1, DKa0, DHb0, DHb1, DHa0, DDe0, DWc0, hq0, Place.drop_box, Place.drop_pb]
    refine br_dec (fun h3 => ?_) (fun h3 => ?_)
    · exact absurd ⟨by omega, h3⟩ hne
    simp (disch := omega) only [SX0, SX1, SX2, SX3, SX4, SX5, SX6, SX7, SX8, SU0, SY0, Nat.reduceAdd, Nat.reduceMul, Nat.reduceSub, Nat.reduceLeDiff, Nat.reduceEqDiff, Nat.reduceLT, Nat.reduceBEq, ↓reduceIte, Int.reduceLE, Int.reduceLT, Int.reduceToNat, Int.reduceNeg, reduceCtorEq, Int.reduceEq, SF0, SF1, SF2, DWb0, DWa0, DLa0, DCg0, DCe0, DCe1, DCe2, DDb0, DBc0, DBc1, DKa0, DHb0, DHb1, DHa0, DDe0, DWc0]
    with_reducible refine awp_loop_h (G := Nat) 6 99 (fun g => [(6, .val (.int .i64 (2 + g)))]) (fun _ => [.cells b.cs, .cells [.val (.int .i64 0), .val (.int .i64 0), .val (.int .i64 0), .val (.bool false), .val (.slice none 0 0)]]) (fun g => g ≤ 2 ∧ ∀ (g' i' : Nat) (x' : Int), g' < g → (SP l b g')[i']? = some x' → ¬ partOk l (2 + (g' : Int)) x' = true) (fun g => 2 - g) 0 ⟨Nat.zero_le _, fun _ _ _ h => by omega⟩ ?_ (fun g hg => ?_)
    · simp (disch := omega) only [SX0, SX1, SX2, SX3, SX4, SX5, SX6, SX7, SX8, SU0, SY0, Nat.reduceAdd, Nat.reduceMul, Nat.reduceSub, Nat.reduceLeDiff, Nat.reduceEqDiff, Nat.reduceLT, Nat.reduceBEq, ↓reduceIte, Int.reduceLE, Int.reduceLT, Int.reduceToNat, Int.reduceNeg, reduceCtorEq, Int.reduceEq, SF0, SF1, SF2, DWb0, DWa0, DLa0, DCg0, DCe0, DCe1, DCe2, DDb0, DBc0, DBc1, DKa0, DHb0, DHb1, DHa0, DDe0, DWc0]
      (refine wk_le ?_ ?_ ?_; (focus (simp [W8, leTm, leAV, AV.under, underL, Box.under]; done)); (focus (simp [leL, OB.under, underL, AV.under, Box.under]; done)); (focus (simp; done)))
    obtain ⟨hg, hgp⟩ := hg
    refine sx_sound (bl := []) T_tt _ _ _ ?_
    simp (disch := omega) only [SX0, SX1, SX2, SX3, SX4, SX5, SX6, SX7, SX8, SU0, SY0, Nat.reduceAdd, Nat.reduceMul, Nat.reduceSub, Nat.reduceLeDiff, Nat.reduceEqDiff, Nat.reduceLT, Nat.reduceBEq, ↓reduceIte, Int.reduceLE, Int.reduceLT, Int.reduceToNat, Int.reduceNeg, reduceCtorEq, Int.reduceEq, SF0, SF1, SF2, DWb0, DWa0, DLa0, DCg0, DCe0, DCe1, DCe2, DDb0, DBc0, DBc1, DKa0, DHb0, DHb1, DHa0, DDe0, DWc0]
    refine br_dec (fun h3 => ?_) (fun h3 => ?_)
    · simp (disch := omega) only [SX0, SX1, SX2, SX3, SX4, SX5, SX6, SX7, SX8, SU0, SY0, Nat.reduceAdd, Nat.reduceMul, Nat.reduceSub, Nat.reduceLeDiff, Nat.reduceEqDiff, Nat.reduceLT, Nat.reduceBEq, ↓reduceIte, Int.reduceLE, Int.reduceLT, Int.reduceToNat, Int.reduceNeg, reduceCtorEq, Int.reduceEq, SF0, SF1, SF2, DWb0, DWa0, DLa0, DCg0, DCe0, DCe1, DCe2, DDb0, DBc0, DBc1, DKa0, DHb0, DHb1, DHa0, DDe0, DWc0]
      refine br_dec (fun h4 => ?_) (fun h4 => ?_)
      · have hg1 : g = 1 := by omega
        have eF : frP b g = b.Y := by simp [frP, hg1]
        have eS : SP l b g = edgesL l (2 + (g : Int)) b.Y (b.Y + b.H) := by simp [SP, frP, hg1]
        simp (disch := omega) only [SX0, SX1, SX2, SX3, SX4, SX5, SX6, SX7, SX8, SU0, SY0, Nat.reduceAdd, Nat.reduceMul, Nat.reduceSub, Nat.reduceLeDiff, Nat.reduceEqDiff, Nat.reduceLT, Nat.reduceBEq, ↓reduceIte, Int.reduceLE, Int.reduceLT, Int.reduceToNat, Int.reduceNeg, reduceCtorEq, Int.reduceEq, SF0, SF1, SF2, DWb0, DWa0, DLa0, DCg0, DCe0, DCe1, DCe2, DDb0, DBc0, DBc1, DKa0, DHb0, DHb1, DHa0, DDe0, DWc0]
        refine acall_one (edgesS_c l (2 + (g : Int)) b.Y (b.Y + b.H) hl hln (by omega) (by omega)) rfl rfl ?_
        have hS : ∀ x ∈ edgesL l (2 + (g : Int)) b.Y (b.Y + b.H), b.Y < x ∧ x < (b.Y + b.H) := fun x hx => edgesL_rng hx
        have hSl : (edgesL l (2 + (g : Int)) b.Y (b.Y + b.H)).length ≤ 500 := Nat.le_trans (edgesL_len _ _ _ _) (by omega)
        generalize edgesL l (2 + (g : Int)) b.Y (b.Y + b.H) = S at *
        simp (disch := omega) only [SX0, SX1, SX2, SX3, SX4, SX5, SX6, SX7, SX8, SU0, SY0, Nat.reduceAdd, Nat.reduceMul, Nat.reduceSub, Nat.reduceLeDiff, Nat.reduceEqDiff, Nat.reduceLT, Nat.reduceBEq, ↓reduceIte, Int.reduceLE, Int.reduceLT, Int.reduceToNat, Int.reduceNeg, reduceCtorEq, Int.reduceEq, SF0, SF1, SF2, DWb0, DWa0, DLa0, DCg0, DCe0, DCe1, DCe2, DDb0, DBc0, DBc1, DKa0, DHb0, DHb1, DHa0, DDe0, DWc0]
        with_reducible refine awp_loop_h (G := Nat) 10 95 (fun i => [(10, .val (.int .i64 i))]) (fun _ => [.cells b.cs, .cells [.val (.int .i64 0), .val (.int .i64 0), .val (.int .i64 0), .val (.bool false), .val (.slice none 0 0)]]) (fun i => i ≤ S.length ∧ ∀ (i' : Nat) (x' : Int), i' < i → S[i']? = some x' → ¬ partOk l (2 + (g : Int)) x' = true) (fun i => S.length - i) 0 ⟨Nat.zero_le _, fun _ _ h => by omega⟩ ?_ (fun i hi => ?_)
        · simp (disch := omega) only [SX0, SX1, SX2, SX3, SX4, SX5, SX6, SX7, SX8, SU0, SY0, Nat.reduceAdd, Nat.reduceMul, Nat.reduceSub, Nat.reduceLeDiff, Nat.reduceEqDiff, Nat.reduceLT, Nat.reduceBEq, ↓reduceIte, Int.reduceLE, Int.reduceLT, Int.reduceToNat, Int.reduceNeg, reduceCtorEq, Int.reduceEq, SF0, SF1, SF2, DWb0, DWa0, DLa0, DCg0, DCe0, DCe1, DCe2, DDb0, DBc0, DBc1, DKa0, DHb0, DHb1, DHa0, DDe0, DWc0]
          (refine wk_le ?_ ?_ ?_; (focus (simp [W8, leTm, leAV, AV.under, underL, Box.under]; done)); (focus (simp [leL, OB.under, underL, AV.under, Box.under]; done)); (focus (simp; done)))
        obtain ⟨hi, hin⟩ := hi
        refine sx_sound (bl := []) T_tt _ _ _ ?_
        simp (disch := omega) only [SX0, SX1, SX2, SX3, SX4, SX5, SX6, SX7, SX8, SU0, SY0, Nat.reduceAdd, Nat.reduceMul, Nat.reduceSub, Nat.reduceLeDiff, Nat.reduceEqDiff, Nat.reduceLT, Nat.reduceBEq, ↓reduceIte, Int.reduceLE, Int.reduceLT, Int.reduceToNat, Int.reduceNeg, reduceCtorEq, Int.reduceEq, SF0, SF1, SF2, DWb0, DWa0, DLa0, DCg0, DCe0, DCe1, DCe2, DDb0, DBc0, DBc1, DKa0, DHb0, DHb1, DHa0, DDe0, DWc0]
        refine br_dec (fun h5 => ?_) (fun h5 => ?_)
        · obtain ⟨x, hx⟩ := get_lt (l := S) (i := i) (by omega)
          have hxS := hS x (List.mem_of_getElem? hx)
          simp (disch := omega) only [SX0, SX1, SX2, SX3, SX4, SX5, SX6, SX7, SX8, SU0, SY0, Nat.reduceAdd, Nat.reduceMul, Nat.reduceSub, Nat.reduceLeDiff, Nat.reduceEqDiff, Nat.reduceLT, Nat.reduceBEq, ↓reduceIte, Int.reduceLE, Int.reduceLT, Int.reduceToNat, Int.reduceNeg, reduceCtorEq, Int.reduceEq, SF0, SF1, SF2, DWb0, DWa0, DLa0, DCg0, DCe0, DCe1, DCe2, DDb0, DBc0, DBc1, DKa0, DHb0, DHb1, DHa0, DDe0, DWc0, hx]
          refine acall_one (partS_c l (2 + (g : Int)) x true hl hln) rfl rfl ?_
          simp (disch := omega) only [SX0, SX1, SX2, SX3, SX4, SX5, SX6, SX7, SX8, SU0, SY0, Nat.reduceAdd, Nat.reduceMul, Nat.reduceSub, Nat.reduceLeDiff, Nat.reduceEqDiff, Nat.reduceLT, Nat.reduceBEq, ↓reduceIte, Int.reduceLE, Int.reduceLT, Int.reduceToNat, Int.reduceNeg, reduceCtorEq, Int.reduceEq, SF0, SF1, SF2, DWb0, DWa0, DLa0, DCg0, DCe0, DCe1, DCe2, DDb0, DBc0, DBc1, DKa0, DHb0, DHb1, DHa0, DDe0, DWc0]
          refine br_bool (fun h6 => ?_) (fun h6 => ?_)
          · have B := hQ g x ⟨i, by omega, by rw [eS]; exact hx, h6, fun i' x' hi' hx' => hin i' x' hi' (by rw [← eS]; exact hx'), hgp⟩
            rw [eF] at B
            simp (disch := omega) only [SX0, SX1, SX2, SX3, SX4, SX5, SX6, SX7, SX8, SU0, SY0, Nat.reduceAdd, Nat.reduceMul, Nat.reduceSub, Nat.reduceLeDiff, Nat.reduceEqDiff, Nat.reduceLT, Nat.reduceBEq, ↓reduceIte, Int.reduceLE, Int.reduceLT, Int.reduceToNat, Int.reduceNeg, reduceCtorEq, Int.reduceEq, SF0, SF1, SF2, DWb0, DWa0, DLa0, DCg0, DCe0, DCe1, DCe2, DDb0, DBc0, DBc1, DKa0, DHb0, DHb1, DHa0, DDe0, DWc0, hx]
            refine acall_one (partS_c l (2 + (g : Int)) x false hl hln) rfl rfl ?_
            simp (disch := omega) only [SX0, SX1, SX2, SX3, SX4, SX5, SX6, SX7, SX8, SU0, SY0, Nat.reduceAdd, Nat.reduceMul, Nat.reduceSub, Nat.reduceLeDiff, Nat.reduceEqDiff, Nat.reduceLT, Nat.reduceBEq, ↓reduceIte, Int.reduceLE, Int.reduceLT, Int.reduceToNat, Int.reduceNeg, reduceCtorEq, Int.reduceEq, SF0, SF1, SF2, DWb0, DWa0, DLa0, DCg0, DCe0, DCe1, DCe2, DDb0, DBc0, DBc1, DKa0, DHb0, DHb1, DHa0, DDe0, DWc0]
            refine awp_float (bl := []) T_tt mixed [0, 1] [0, 1, 2, 3, 4, 5, 6, 7, 8, 9, 10, 11, 12] [(13, [(0, .f 91), (1, .f 92), (2, .f 93), (3, .f 94), (4, .f 95), (5, .f 96), (6, .f 97), (7, .f 98), (8, .f 99), (9, .f 100), (10, .f 101), (11, .f 102), (12, .f 103)]), (14, [])] [] (by kernel_rfl) (by kernel_rfl) ?_
            simp (disch := omega) only [SX0, SX1, SX2, SX3, SX4, SX5, SX6, SX7, SX8, SU0, SY0, Nat.reduceAdd, Nat.reduceMul, Nat.reduceSub, Nat.reduceLeDiff, Nat.reduceEqDiff, Nat.reduceLT, Nat.reduceBEq, ↓reduceIte, Int.reduceLE, Int.reduceLT, Int.reduceToNat, Int.reduceNeg, reduceCtorEq, Int.reduceEq, SF0, SF1, SF2, DWb0, DWa0, DLa0, DCg0, DCe0, DCe1, DCe2, DDb0, DBc0, DBc1, DKa0, DHb0, DHb1, DHa0, DDe0, DWc0, hx]
            refine qc_one B (by simp [freeL, AV.free, Box.free]) ?_
            simp (disch := omega) only [SX0, SX1, SX2, SX3, SX4, SX5, SX6, SX7, SX8, SU0, SY0, Nat.reduceAdd, Nat.reduceMul, Nat.reduceSub, Nat.reduceLeDiff, Nat.reduceEqDiff, Nat.reduceLT, Nat.reduceBEq, ↓reduceIte, Int.reduceLE, Int.reduceLT, Int.reduceToNat, Int.reduceNeg, reduceCtorEq, Int.reduceEq, SF0, SF1, SF2, DWb0, DWa0, DLa0, DCg0, DCe0, DCe1, DCe2, DDb0, DBc0, DBc1, DKa0, DHb0, DHb1, DHa0, DDe0, DWc0]
            exact fin_free (by simp [AV.free, freeL, Plan.free]) ⟨rfl, rfl⟩
          · simp (disch := omega) only [SX0, SX1, SX2, SX3, SX4, SX5, SX6, SX7, SX8, SU0, SY0, Nat.reduceAdd, Nat.reduceMul, Nat.reduceSub, Nat.reduceLeDiff, Nat.reduceEqDiff, Nat.reduceLT, Nat.reduceBEq, ↓reduceIte, Int.reduceLE, Int.reduceLT, Int.reduceToNat, Int.reduceNeg, reduceCtorEq, Int.reduceEq, SF0, SF1, SF2, DWb0, DWa0, DLa0, DCg0, DCe0, DCe1, DCe2, DDb0, DBc0, DBc1, DKa0, DHb0, DHb1, DHa0, DDe0, DWc0]
            refine ⟨i + 1, ⟨by omega, fun i' x' hi' hx' => ?_⟩, by omega, ?_⟩
            · by_cases e : i' = i
              · rw [e, hx] at hx'; cases hx'; simp [h6]
              · exact hin i' x' (by omega) hx'
            (refine wk_le ?_ ?_ ?_; (focus (simp [W8, leTm, leAV, AV.under, underL, Box.under]; done)); (focus (simp [leL, OB.under, underL, AV.under, Box.under]; done)); (focus (simp; done)))
        · simp (disch := omega) only [SX0, SX1, SX2, SX3, SX4, SX5, SX6, SX7, SX8, SU0, SY0, Nat.reduceAdd, Nat.reduceMul, Nat.reduceSub, Nat.reduceLeDiff, Nat.reduceEqDiff, Nat.reduceLT, Nat.reduceBEq, ↓reduceIte, Int.reduceLE, Int.reduceLT, Int.reduceToNat, Int.reduceNeg, reduceCtorEq, Int.reduceEq, SF0, SF1, SF2, DWb0, DWa0, DLa0, DCg0, DCe0, DCe1, DCe2, DDb0, DBc0, DBc1, DKa0, DHb0, DHb1, DHa0, DDe0, DWc0]
          refine ⟨g + 1, ⟨by omega, fun g' i' x' hg' hx' => ?_⟩, by omega, ?_⟩
          · by_cases e : g' = g
            · subst e
              rw [eS] at hx'
              exact hin i' x' (by have := (List.getElem?_eq_some_iff.1 hx').1; omega) hx'
            · exact hgp g' i' x' (by omega) hx'
          have e : (2 : Int) + g + 1 = 2 + (g + 1) := by omega
          (refine wk_le ?_ ?_ ?_; (focus (simp [W8, leTm, leAV, AV.under, underL, Box.under, e]; done)); (focus (simp [leL, OB.under, underL, AV.under, Box.under, e]; done)); (focus (simp; done)))
      · have hg1 : g = 0 := by omega
        have eF : frP b g = b.X := by simp [frP, hg1]
        have eS : SP l b g = edgesL l (2 + (g : Int)) b.X (b.X + b.W) := by simp [SP, frP, hg1]
        simp (disch := omega) only [SX0, SX1, SX2, SX3, SX4, SX5, SX6, SX7, SX8, SU0, SY0, Nat.reduceAdd, Nat.reduceMul, Nat.reduceSub, Nat.reduceLeDiff, Nat.reduceEqDiff, Nat.reduceLT, Nat.reduceBEq, ↓reduceIte, Int.reduceLE, Int.reduceLT, Int.reduceToNat, Int.reduceNeg, reduceCtorEq, Int.reduceEq, SF0, SF1, SF2, DWb0, DWa0, DLa0, DCg0, DCe0, DCe1, DCe2, DDb0, DBc0, DBc1, DKa0, DHb0, DHb1, DHa0, DDe0, DWc0]
        refine acall_one (edgesS_c l (2 + (g : Int)) b.X (b.X + b.W) hl hln (by omega) (by omega)) rfl rfl ?_
        have hS : ∀ x ∈ edgesL l (2 + (g : Int)) b.X (b.X + b.W), b.X < x ∧ x < (b.X + b.W) := fun x hx => edgesL_rng hx
        have hSl : (edgesL l (2 + (g : Int)) b.X (b.X + b.W)).length ≤ 500 := Nat.le_trans (edgesL_len _ _ _ _) (by omega)
        generalize edgesL l (2 + (g : Int)) b.X (b.X + b.W) = S at *
        simp (disch := omega) only [SX0, SX1, SX2, SX3, SX4, SX5, SX6, SX7, SX8, SU0, SY0, Nat.reduceAdd, Nat.reduceMul, Nat.reduceSub, Nat.reduceLeDiff, Nat.reduceEqDiff, Nat.reduceLT, Nat.reduceBEq, ↓reduceIte, Int.reduceLE, Int.reduceLT, Int.reduceToNat, Int.reduceNeg, reduceCtorEq, Int.reduceEq, SF0, SF1, SF2, DWb0, DWa0, DLa0, DCg0, DCe0, DCe1, DCe2, DDb0, DBc0, DBc1, DKa0, DHb0, DHb1, DHa0, DDe0, DWc0]
        with_reducible refine awp_loop_h (G := Nat) 10 95 (fun i => [(10, .val (.int .i64 i))]) (fun _ => [.cells b.cs, .cells [.val (.int .i64 0), .val (.int .i64 0), .val (.int .i64 0), .val (.bool false), .val (.slice none 0 0)]]) (fun i => i ≤ S.length ∧ ∀ (i' : Nat) (x' : Int), i' < i → S[i']? = some x' → ¬ partOk l (2 + (g : Int)) x' = true) (fun i => S.length - i) 0 ⟨Nat.zero_le _, fun _ _ h => by omega⟩ ?_ (fun i hi => ?_)
        · simp (disch := omega) only [SX0, SX1, SX2, SX3, SX4, SX5, SX6, SX7, SX8, SU0, SY0, Nat.reduceAdd, Nat.reduceMul, Nat.reduceSub, Nat.reduceLeDiff, Nat.reduceEqDiff, Nat.reduceLT, Nat.reduceBEq, ↓reduceIte, Int.reduceLE, Int.reduceLT, Int.reduceToNat, Int.reduceNeg, reduceCtorEq, Int.reduceEq, SF0, SF1, SF2, DWb0, DWa0, DLa0, DCg0, DCe0, DCe1, DCe2, DDb0, DBc0, DBc1, DKa0, DHb0, DHb1, DHa0, DDe0, DWc0]
          (refine wk_le ?_ ?_ ?_; (focus (simp [W8, leTm, leAV, AV.under, underL, Box.under]; done)); (focus (simp [leL, OB.under, underL, AV.under, Box.under]; done)); (focus (simp; done)))
        obtain ⟨hi, hin⟩ := hi
        refine sx_sound (bl := []) T_tt _ _ _ ?_
        simp (disch := omega) only [SX0, SX1, SX2, SX3, SX4, SX5, SX6, SX7, SX8, SU0, SY0, Nat.reduceAdd, Nat.reduceMul, Nat.reduceSub, Nat.reduceLeDiff, Nat.reduceEqDiff, Nat.reduceLT, Nat.reduceBEq, ↓reduceIte, Int.reduceLE, Int.reduceLT, Int.reduceToNat, Int.reduceNeg, reduceCtorEq, Int.reduceEq, SF0, SF1, SF2, DWb0, DWa0, DLa0, DCg0, DCe0, DCe1, DCe2, DDb0, DBc0, DBc1, DKa0, DHb0, DHb1, DHa0, DDe0, DWc0]
        refine br_dec (fun h5 => ?_) (fun h5 => ?_)
        · obtain ⟨x, hx⟩ := get_lt (l := S) (i := i) (by omega)
          have hxS := hS x (List.mem_of_getElem? hx)
          simp (disch := omega) only [SX0, SX1, SX2, SX3, SX4, SX5, SX6, SX7, SX8, SU0, SY0, Nat.reduceAdd, Nat.reduceMul, Nat.reduceSub, Nat.reduceLeDiff, Nat.reduceEqDiff, Nat.reduceLT, Nat.reduceBEq, ↓reduceIte, Int.reduceLE, Int.reduceLT, Int.reduceToNat, Int.reduceNeg, reduceCtorEq, Int.reduceEq, SF0, SF1, SF2, DWb0, DWa0, DLa0, DCg0, DCe0, DCe1, DCe2, DDb0, DBc0, DBc1, DKa0, DHb0, DHb1, DHa0, DDe0, DWc0, hx]
          refine acall_one (partS_c l (2 + (g : Int)) x true hl hln) rfl rfl ?_
          simp (disch := omega) only [SX0, SX1, SX2, SX3, SX4, SX5, SX6, SX7, SX8, SU0, SY0, Nat.reduceAdd, Nat.reduceMul, Nat.reduceSub, Nat.reduceLeDiff, Nat.reduceEqDiff, Nat.reduceLT, Nat.reduceBEq, ↓reduceIte, Int.reduceLE, Int.reduceLT, Int.reduceToNat, Int.reduceNeg, reduceCtorEq, Int.reduceEq, SF0, SF1, SF2, DWb0, DWa0, DLa0, DCg0, DCe0, DCe1, DCe2, DDb0, DBc0, DBc1, DKa0, DHb0, DHb1, DHa0, DDe0, DWc0]
          refine br_bool (fun h6 => ?_) (fun h6 => ?_)
          · have B := hQ g x ⟨i, by omega, by rw [eS]; exact hx, h6, fun i' x' hi' hx' => hin i' x' hi' (by rw [← eS]; exact hx'), hgp⟩
            rw [eF] at B
            simp (disch := omega) only [SX0, SX1, SX2, SX3, SX4, SX5, SX6, SX7, SX8, SU0, SY0, Nat.reduceAdd, Nat.reduceMul, Nat.reduceSub, Nat.reduceLeDiff, Nat.reduceEqDiff, Nat.reduceLT, Nat.reduceBEq, ↓reduceIte, Int.reduceLE, Int.reduceLT, Int.reduceToNat, Int.reduceNeg, reduceCtorEq, Int.reduceEq, SF0, SF1, SF2, DWb0, DWa0, DLa0, DCg0, DCe0, DCe1, DCe2, DDb0, DBc0, DBc1, DKa0, DHb0, DHb1, DHa0, DDe0, DWc0, hx]
            refine acall_one (partS_c l (2 + (g : Int)) x false hl hln) rfl rfl ?_
            simp (disch := omega) only [SX0, SX1, SX2, SX3, SX4, SX5, SX6, SX7, SX8, SU0, SY0, Nat.reduceAdd, Nat.reduceMul, Nat.reduceSub, Nat.reduceLeDiff, Nat.reduceEqDiff, Nat.reduceLT, Nat.reduceBEq, ↓reduceIte, Int.reduceLE, Int.reduceLT, Int.reduceToNat, Int.reduceNeg, reduceCtorEq, Int.reduceEq, SF0, SF1, SF2, DWb0, DWa0, DLa0, DCg0, DCe0, DCe1, DCe2, DDb0, DBc0, DBc1, DKa0, DHb0, DHb1, DHa0, DDe0, DWc0]
            refine awp_float (bl := []) T_tt mixed [0, 1] [0, 1, 2, 3, 4, 5, 6, 7, 8, 9, 10, 11, 12] [(13, [(0, .f 91), (1, .f 92), (2, .f 93), (3, .f 94), (4, .f 95), (5, .f 96), (6, .f 97), (7, .f 98), (8, .f 99), (9, .f 100), (10, .f 101), (11, .f 102), (12, .f 103)]), (14, [])] [] (by kernel_rfl) (by kernel_rfl) ?_
            simp (disch := omega) only [SX0, SX1, SX2, SX3, SX4, SX5, SX6, SX7, SX8, SU0, SY0, Nat.reduceAdd, Nat.reduceMul, Nat.reduceSub, Nat.reduceLeDiff, Nat.reduceEqDiff, Nat.reduceLT, Nat.reduceBEq, ↓reduceIte, Int.reduceLE, Int.reduceLT, Int.reduceToNat, Int.reduceNeg, reduceCtorEq, Int.reduceEq, SF0, SF1, SF2, DWb0, DWa0, DLa0, DCg0, DCe0, DCe1, DCe2, DDb0, DBc0, DBc1, DKa0, DHb0, DHb1, DHa0, DDe0, DWc0, hx]
            refine qc_one B (by simp [freeL, AV.free, Box.free]) ?_
            simp (disch := omega) only [SX0, SX1, SX2, SX3, SX4, SX5, SX6, SX7, SX8, SU0, SY0, Nat.reduceAdd, Nat.reduceMul, Nat.reduceSub, Nat.reduceLeDiff, Nat.reduceEqDiff, Nat.reduceLT, Nat.reduceBEq, ↓reduceIte, Int.reduceLE, Int.reduceLT, Int.reduceToNat, Int.reduceNeg, reduceCtorEq, Int.reduceEq, SF0, SF1, SF2, DWb0, DWa0, DLa0, DCg0, DCe0, DCe1, DCe2, DDb0, DBc0, DBc1, DKa0, DHb0, DHb1, DHa0, DDe0, DWc0]
            exact fin_free (by simp [AV.free, freeL, Plan.free]) ⟨rfl, rfl⟩
          · simp (disch := omega) only [SX0, SX1, SX2, SX3, SX4, SX5, SX6, SX7, SX8, SU0, SY0, Nat.reduceAdd, Nat.reduceMul, Nat.reduceSub, Nat.reduceLeDiff, Nat.reduceEqDiff, Nat.reduceLT, Nat.reduceBEq, ↓reduceIte, Int.reduceLE, Int.reduceLT, Int.reduceToNat, Int.reduceNeg, reduceCtorEq, Int.reduceEq, SF0, SF1, SF2, DWb0, DWa0, DLa0, DCg0, DCe0, DCe1, DCe2, DDb0, DBc0, DBc1, DKa0, DHb0, DHb1, DHa0, DDe0, DWc0]
            refine ⟨i + 1, ⟨by omega, fun i' x' hi' hx' => ?_⟩, by omega, ?_⟩
            · by_cases e : i' = i
              · rw [e, hx] at hx'; cases hx'; simp [h6]
              · exact hin i' x' (by omega) hx'
            (refine wk_le ?_ ?_ ?_; (focus (simp [W8, leTm, leAV, AV.under, underL, Box.under]; done)); (focus (simp [leL, OB.under, underL, AV.under, Box.under]; done)); (focus (simp; done)))
        · simp (disch := omega) only [SX0, SX1, SX2, SX3, SX4, SX5, SX6, SX7, SX8, SU0, SY0, Nat.reduceAdd, Nat.reduceMul, Nat.reduceSub, Nat.reduceLeDiff, Nat.reduceEqDiff, Nat.reduceLT, Nat.reduceBEq, ↓reduceIte, Int.reduceLE, Int.reduceLT, Int.reduceToNat, Int.reduceNeg, reduceCtorEq, Int.reduceEq, SF0, SF1, SF2, DWb0, DWa0, DLa0, DCg0, DCe0, DCe1, DCe2, DDb0, DBc0, DBc1, DKa0, DHb0, DHb1, DHa0, DDe0, DWc0]
          refine ⟨g + 1, ⟨by omega, fun g' i' x' hg' hx' => ?_⟩, by omega, ?_⟩
          · by_cases e : g' = g
            · subst e
              rw [eS] at hx'
              exact hin i' x' (by have := (List.getElem?_eq_some_iff.1 hx').1; omega) hx'
            · exact hgp g' i' x' (by omega) hx'
          have e : (2 : Int) + g + 1 = 2 + (g + 1) := by omega
          (refine wk_le ?_ ?_ ?_; (focus (simp [W8, leTm, leAV, AV.under, underL, Box.under, e]; done)); (focus (simp [leL, OB.under, underL, AV.under, Box.under, e]; done)); (focus (simp; done)))
    · have hno : ¬ ∃ g x, HitP l b g x := fun hh => by
        obtain ⟨g1, x1, i1, hh1, hh2, hh3, hh4, hh5⟩ := hh
        exact hgp g1 i1 x1 (by omega) hh2 hh3
      obtain ⟨rfl, rfl⟩ := hN hno
      simp (disch := omega) only [SX0, SX1, SX2, SX3, SX4, SX5, SX6, SX7, SX8, SU0, SY0, Nat.reduceAdd, Nat.reduceMul, Nat.reduceSub, Nat.reduceLeDiff, Nat.reduceEqDiff, Nat.reduceLT, Nat.reduceBEq, ↓reduceIte, Int.reduceLE, Int.reduceLT, Int.reduceToNat, Int.reduceNeg, reduceCtorEq, Int.reduceEq, SF0, SF1, SF2, DWb0, DWa0, DLa0, DCg0, DCe0, DCe1, DCe2, DDb0, DBc0, DBc1, DKa0, DHb0, DHb1, DHa0, DDe0, DWc0]
      refine fin_nrm ?_
      simp only [AV.nrm, nrmL]
      exact fin_free rfl ⟨by rw [Plan.zero_cs], rfl⟩
  · simp (disch := omega) only [SX0, SX1, SX2, SX3, SX4, SX5, SX6, SX7, SX8, SU0, SY0, Nat.reduceAdd, Nat.reduceMul, Nat.reduceSub, Nat.reduceLeDiff, Nat.reduceEqDiff, Nat.reduceLT, Nat.reduceBEq, ↓reduceIte, Int.reduceLE, Int.reduceLT, Int.reduceToNat, Int.reduceNeg, reduceCtorEq, Int.reduceEq, SF0, SF1, SF2, DWb0, DWa0, DLa0, DCg0, DCe0, DCe1, DCe2, DDb0, DBc0, DBc1, DKa0, DHb0, DHb1, DHa0, DDe0, DWc0]
    with_reducible refine awp_loop_h (G := Nat) 6 99 (fun g => [(6, .val (.int .i64 (2 + g)))]) (fun _ => [.cells b.cs, .cells [.val (.int .i64 0), .val (.int .i64 0), .val (.int .i64 0), .val (.bool false), .val (.slice none 0 0)]]) (fun g => g ≤ 2 ∧ ∀ (g' i' : Nat) (x' : Int), g' < g → (SP l b g')[i']? = some x' → ¬ partOk l (2 + (g' : Int)) x' = true) (fun g => 2 - g) 0 ⟨Nat.zero_le _, fun _ _ _ h => by omega⟩ ?_ (fun g hg => ?_)
    · simp (disch := omega) only [SX0, SX1, SX2, SX3, SX4, SX5, SX6, SX7, SX8, SU0, SY0, Nat.reduceAdd, Nat.reduceMul, Nat.reduceSub, Nat.reduceLeDiff, Nat.reduceEqDiff, Nat.reduceLT, Nat.reduceBEq, ↓reduceIte, Int.reduceLE, Int.reduceLT, Int.reduceToNat, Int.reduceNeg, reduceCtorEq, Int.reduceEq, SF0, SF1, SF2, DWb0, DWa0, DLa0, DCg0, DCe0, DCe1, DCe2, DDb0, DBc0, DBc1, DKa0, DHb0, DHb1, DHa0, DDe0, DWc0]
      (refine wk_le ?_ ?_ ?_; (focus (simp [W8, leTm, leAV, AV.under, underL, Box.under]; done)); (focus (simp [leL, OB.under, underL, AV.under, Box.under]; done)); (focus (simp; done)))
    obtain ⟨hg, hgp⟩ := hg
    refine sx_sound (bl := []) T_tt _ _ _ ?_
    simp (disch := omega) only [SX0, SX1, SX2, SX3, SX4, SX5, SX6, SX7, SX8, SU0, SY0, Nat.reduceAdd, Nat.reduceMul, Nat.reduceSub, Nat.reduceLeDiff, Nat.reduceEqDiff, Nat.reduceLT, Nat.reduceBEq, ↓reduceIte, Int.reduceLE, Int.reduceLT, Int.reduceToNat, Int.reduceNeg, reduceCtorEq, Int.reduceEq, SF0, SF1, SF2, DWb0, DWa0, DLa0, DCg0, DCe0, DCe1, DCe2, DDb0, DBc0, DBc1, DKa0, DHb0, DHb1, DHa0, DDe0, DWc0]
    refine br_dec (fun h3 => ?_) (fun h3 => ?_)
    · simp (disch := omega) only [SX0, SX1, SX2, SX3, SX4, SX5, SX6, SX7, SX8, SU0, SY0, Nat.reduceAdd, Nat.reduceMul, Nat.reduceSub, Nat.reduceLeDiff, Nat.reduceEqDiff, Nat.reduceLT, Nat.reduceBEq, ↓reduceIte, Int.reduceLE, Int.reduceLT, Int.reduceToNat, Int.reduceNeg, reduceCtorEq, Int.reduceEq, SF0, SF1, SF2, DWb0, DWa0, DLa0, DCg0, DCe0, DCe1, DCe2, DDb0, DBc0, DBc1, DKa0, DHb0, DHb1, DHa0, DDe0, DWc0]
      refine br_dec (fun h4 => ?_) (fun h4 => ?_)
      · have hg1 : g = 1 := by omega
        have eF : frP b g = b.Y := by simp [frP, hg1]
        have eS : SP l b g = edgesL l (2 + (g : Int)) b.Y (b.Y + b.H) := by simp [SP, frP, hg1]
        simp (disch := omega) only [SX0, SX1, SX2, SX3, SX4, SX5, SX6, SX7, SX8, SU0, SY0, Nat.reduceAdd, Nat.reduceMul, Nat.reduceSub, Nat.reduceLeDiff, Nat.reduceEqDiff, Nat.reduceLT, Nat.reduceBEq, ↓reduceIte, Int.reduceLE, Int.reduceLT, Int.reduceToNat, Int.reduceNeg, reduceCtorEq, Int.reduceEq, SF0, SF1, SF2, DWb0, DWa0, DLa0, DCg0, DCe0, DCe1, DCe2, DDb0, DBc0, DBc1, DKa0, DHb0, DHb1, DHa0, DDe0, DWc0]
        refine acall_one (edgesS_c l (2 + (g : Int)) b.Y (b.Y + b.H) hl hln (by omega) (by omega)) rfl rfl ?_
        have hS : ∀ x ∈ edgesL l (2 + (g : Int)) b.Y (b.Y + b.H), b.Y < x ∧ x < (b.Y + b.H) := fun x hx => edgesL_rng hx
        have hSl : (edgesL l (2 + (g : Int)) b.Y (b.Y + b.H)).length ≤ 500 := Nat.le_trans (edgesL_len _ _ _ _) (by omega)
        generalize edgesL l (2 + (g : Int)) b.Y (b.Y + b.H) = S at *
        simp (disch := omega) only [SX0, SX1, SX2, SX3, SX4, SX5, SX6, SX7, SX8, SU0, SY0, Nat.reduceAdd, Nat.reduceMul, Nat.reduceSub, Nat.reduceLeDiff, Nat.reduceEqDiff, Nat.reduceLT, Nat.reduceBEq, ↓reduceIte, Int.reduceLE, Int.reduceLT, Int.reduceToNat, Int.reduceNeg, reduceCtorEq, Int.reduceEq, SF0, SF1, SF2, DWb0, DWa0, DLa0, DCg0, DCe0, DCe1, DCe2, DDb0, DBc0, DBc1, DKa0, DHb0, DHb1, DHa0, DDe0, DWc0]
        with_reducible refine awp_loop_h (G := Nat) 10 95 (fun i => [(10, .val (.int .i64 i))]) (fun _ => [.cells b.cs, .cells [.val (.int .i64 0), .val (.int .i64 0), .val (.int .i64 0), .val (.bool false), .val (.slice none 0 0)]]) (fun i => i ≤ S.length ∧ ∀ (i' : Nat) (x' : Int), i' < i → S[i']? = some x' → ¬ partOk l (2 + (g : Int)) x' = true) (fun i => S.length - i) 0 ⟨Nat.zero_le _, fun _ _ h => by omega⟩ ?_ (fun i hi => ?_)
        · simp (disch := omega) only [SX0, SX1, SX2, SX3, SX4, SX5, SX6, SX7, SX8, SU0, SY0, Nat.reduceAdd, Nat.reduceMul, Nat.reduceSub, Nat.reduceLeDiff, Nat.reduceEqDiff, Nat.reduceLT, Nat.reduceBEq, ↓reduceIte, Int.reduceLE, Int.reduceLT, Int.reduceToNat, Int.reduceNeg, reduceCtorEq, Int.reduceEq, SF0, SF1, SF2, DWb0, DWa0, DLa0, DCg0, DCe0, DCe1, DCe2, DDb0, DBc0, DBc1, DKa0, DHb0, DHb1, DHa0, DDe0, DWc0]
          (refine wk_le ?_ ?_ ?_; (focus (simp [W8, leTm, leAV, AV.under, underL, Box.under]; done)); (focus (simp [leL, OB.under, underL, AV.under, Box.under]; done)); (focus (simp; done)))
        obtain ⟨hi, hin⟩ := hi
        refine sx_sound (bl := []) T_tt _ _ _ ?_
        simp (disch := omega) only [SX0, SX1, SX2, SX3, SX4, SX5, SX6, SX7, SX8, SU0, SY0, Nat.reduceAdd, Nat.reduceMul, Nat.reduceSub, Nat.reduceLeDiff, Nat.reduceEqDiff, Nat.reduceLT, Nat.reduceBEq, ↓reduceIte, Int.reduceLE, Int.reduceLT, Int.reduceToNat, Int.reduceNeg, reduceCtorEq, Int.reduceEq, SF0, SF1, SF2, DWb0, DWa0, DLa0, DCg0, DCe0, DCe1, DCe2, DDb0, DBc0, DBc1, DKa0, DHb0, DHb1, DHa0, DDe0, DWc0]
        refine br_dec (fun h5 => ?_) (fun h5 => ?_)
        · obtain ⟨x, hx⟩ := get_lt (l := S) (i := i) (by omega)
          have hxS := hS x (List.mem_of_getElem? hx)
          simp (disch := omega) only [SX0, SX1, SX2, SX3, SX4, SX5, SX6, SX7, SX8, SU0, SY0, Nat.reduceAdd, Nat.reduceMul, Nat.reduceSub, Nat.reduceLeDiff, Nat.reduceEqDiff, Nat.reduceLT, Nat.reduceBEq, ↓reduceIte, Int.reduceLE, Int.reduceLT, Int.reduceToNat, Int.reduceNeg, reduceCtorEq, Int.reduceEq, SF0, SF1, SF2, DWb0, DWa0, DLa0, DCg0, DCe0, DCe1, DCe2, DDb0, DBc0, DBc1, DKa0, DHb0, DHb1, DHa0, DDe0, DWc0, hx]
          refine acall_one (partS_c l (2 + (g : Int)) x true hl hln) rfl rfl ?_
          simp (disch := omega) only [SX0, SX1, SX2, SX3, SX4, SX5, SX6, SX7, SX8, SU0, SY0, Nat.reduceAdd, Nat.reduceMul, Nat.reduceSub, Nat.reduceLeDiff, Nat.reduceEqDiff, Nat.reduceLT, Nat.reduceBEq, ↓reduceIte, Int.reduceLE, Int.reduceLT, Int.reduceToNat, Int.reduceNeg, reduceCtorEq, Int.reduceEq, SF0, SF1, SF2, DWb0, DWa0, DLa0, DCg0, DCe0, DCe1, DCe2, DDb0, DBc0, DBc1, DKa0, DHb0, DHb1, DHa0, DDe0, DWc0]
          refine br_bool (fun h6 => ?_) (fun h6 => ?_)
          · have B := hQ g x ⟨i, by omega, by rw [eS]; exact hx, h6, fun i' x' hi' hx' => hin i' x' hi' (by rw [← eS]; exact hx'), hgp⟩
            rw [eF] at B
            simp (disch := omega) only [SX0, SX1, SX2, SX3, SX4, SX5, SX6, SX7, SX8, SU0, SY0, Nat.reduceAdd, Nat.reduceMul, Nat.reduceSub, Nat.reduceLeDiff, Nat.reduceEqDiff, Nat.reduceLT, Nat.reduceBEq, ↓reduceIte, Int.reduceLE, Int.reduceLT, Int.reduceToNat, Int.reduceNeg, reduceCtorEq, Int.reduceEq, SF0, SF1, SF2, DWb0, DWa0, DLa0, DCg0, DCe0, DCe1, DCe2, DDb0, DBc0, DBc1, DKa0, DHb0, DHb1, DHa0, DDe0, DWc0, hx]
            refine acall_one (partS_c l (2 + (g : Int)) x false hl hln) rfl rfl ?_
            simp (disch := omega) only [SX0, SX1, SX2, SX3, SX4, SX5, SX6, SX7, SX8, SU0, SY0, Nat.reduceAdd, Nat.reduceMul, Nat.reduceSub, Nat.reduceLeDiff, Nat.reduceEqDiff, Nat.reduceLT, Nat.reduceBEq, ↓reduceIte, Int.reduceLE, Int.reduceLT, Int.reduceToNat, Int.reduceNeg, reduceCtorEq, Int.reduceEq, SF0, SF1, SF2, DWb0, DWa0, DLa0, DCg0, DCe0, DCe1, DCe2, DDb0, DBc0, DBc1, DKa0, DHb0, DHb1, DHa0, DDe0, DWc0]
            refine awp_float (bl := []) T_tt mixed [0, 1] [0, 1, 2, 3, 4, 5, 6, 7, 8, 9, 10, 11, 12] [(13, [(0, .f 91), (1, .f 92), (2, .f 93), (3, .f 94), (4, .f 95), (5, .f 96), (6, .f 97), (7, .f 98), (8, .f 99), (9, .f 100), (10, .f 101), (11, .f 102), (12, .f 103)]), (14, [])] [] (by kernel_rfl) (by kernel_rfl) ?_
            simp (disch := omega) only [SX0, SX1, SX2, SX3, SX4, SX5, SX6, SX7, SX8, SU0, SY0, Nat.reduceAdd, Nat.reduceMul, Nat.reduceSub, Nat.reduceLeDiff, Nat.reduceEqDiff, Nat.reduceLT, Nat.reduceBEq, ↓reduceIte, Int.reduceLE, Int.reduceLT, Int.reduceToNat, Int.reduceNeg, reduceCtorEq, Int.reduceEq, SF0, SF1, SF2, DWb0, DWa0, DLa0, DCg0, DCe0, DCe1, DCe2, DDb0, DBc0, DBc1, DKa0, DHb0, DHb1, DHa0, DDe0, DWc0, hx]
            refine qc_one B (by simp [freeL, AV.free, Box.free]) ?_
            simp (disch := omega) only [SX0, SX1, SX2, SX3, SX4, SX5, SX6, SX7, SX8, SU0, SY0, Nat.reduceAdd, Nat.reduceMul, Nat.reduceSub, Nat.reduceLeDiff, Nat.reduceEqDiff, Nat.reduceLT, Nat.reduceBEq, ↓reduceIte, Int.reduceLE, Int.reduceLT, Int.reduceToNat, Int.reduceNeg, reduceCtorEq, Int.reduceEq, SF0, SF1, SF2, DWb0, DWa0, DLa0, DCg0, DCe0, DCe1, DCe2, DDb0, DBc0, DBc1, DKa0, DHb0, DHb1, DHa0, DDe0, DWc0]
            exact fin_free (by simp [AV.free, freeL, Plan.free]) ⟨rfl, rfl⟩
          · simp (disch := omega) only [SX0, SX1, SX2, SX3, SX4, SX5, SX6, SX7, SX8, SU0, SY0, Nat.reduceAdd, Nat.reduceMul, Nat.reduceSub, Nat.reduceLeDiff, Nat.reduceEqDiff, Nat.reduceLT, Nat.reduceBEq, ↓reduceIte, Int.reduceLE, Int.reduceLT, Int.reduceToNat, Int.reduceNeg, reduceCtorEq, Int.reduceEq, SF0, SF1, SF2, DWb0, DWa0, DLa0, DCg0, DCe0, DCe1, DCe2, DDb0, DBc0, DBc1, DKa0, DHb0, DHb1, DHa0, DDe0, DWc0]
            refine ⟨i + 1, ⟨by omega, fun i' x' hi' hx' => ?_⟩, by omega, ?_⟩
            · by_cases e : i' = i
              · rw [e, hx] at hx'; cases hx'; simp [h6]
              · exact hin i' x' (by omega) hx'
            (refine wk_le ?_ ?_ ?_; (focus (simp [W8, leTm, leAV, AV.under, underL, Box.under]; done)); (focus (simp [leL, OB.under, underL, AV.under, Box.under]; done)); (focus (simp; done)))
        · simp (disch := omega) only [SX0, SX1, SX2, SX3, SX4, SX5, SX6, SX7, SX8, SU0, SY0, Nat.reduceAdd, Nat.reduceMul, Nat.reduceSub, Nat.reduceLeDiff, Nat.reduceEqDiff, Nat.reduceLT, Nat.reduceBEq, ↓reduceIte, Int.reduceLE, Int.reduceLT, Int.reduceToNat, Int.reduceNeg, reduceCtorEq, Int.reduceEq, SF0, SF1, SF2, DWb0, DWa0, DLa0, DCg0, DCe0, DCe1, DCe2, DDb0, DBc0, DBc1, DKa0, DHb0, DHb1, DHa0, DDe0, DWc0]
          refine ⟨g + 1, ⟨by omega, fun g' i' x' hg' hx' => ?_⟩, by omega, ?_⟩
          · by_cases e : g' = g
            · subst e
              rw [eS] at hx'
              exact hin i' x' (by have := (List.getElem?_eq_some_iff.1 hx').1; omega) hx'
            · exact hgp g' i' x' (by omega) hx'
          have e : (2 : Int) + g + 1 = 2 + (g + 1) := by omega
          (refine wk_le ?_ ?_ ?_; (focus (simp [W8, leTm, leAV, AV.under, underL, Box.under, e]; done)); (focus (simp [leL, OB.under, underL, AV.under, Box.under, e]; done)); (focus (simp; done)))
      · have hg1 : g = 0 := by omega
        have eF : frP b g = b.X := by simp [frP, hg1]
        have eS : SP l b g = edgesL l (2 + (g : Int)) b.X (b.X + b.W) := by simp [SP, frP, hg1]
        simp (disch := omega) only [SX0, SX1, SX2, SX3, SX4, SX5, SX6, SX7, SX8, SU0, SY0, Nat.reduceAdd, Nat.reduceMul, Nat.reduceSub, Nat.reduceLeDiff, Nat.reduceEqDiff, Nat.reduceLT, Nat.reduceBEq, ↓reduceIte, Int.reduceLE, Int.reduceLT, Int.reduceToNat, Int.reduceNeg, reduceCtorEq, Int.reduceEq, SF0, SF1, SF2, DWb0, DWa0, DLa0, DCg0, DCe0, DCe1, DCe2, DDb0, DBc0, DBc1, DKa0, DHb0, DHb1, DHa0, DDe0, DWc0]
        refine acall_one (edgesS_c l (2 + (g : Int)) b.X (b.X + b.W) hl hln (by omega) (by omega)) rfl rfl ?_
        have hS : ∀ x ∈ edgesL l (2 + (g : Int)) b.X (b.X + b.W), b.X < x ∧ x < (b.X + b.W) := fun x hx => edgesL_rng hx
        have hSl : (edgesL l (2 + (g : Int)) b.X (b.X + b.W)).length ≤ 500 := Nat.le_trans (edgesL_len _ _ _ _) (by omega)
        generalize edgesL l (2 + (g : Int)) b.X (b.X + b.W) = S at *
        simp (disch := omega) only [SX0, SX1, SX2, SX3, SX4, SX5, SX6, SX7, SX8, SU0, SY0, Nat.reduceAdd, Nat.reduceMul, Nat.reduceSub, Nat.reduceLeDiff, Nat.reduceEqDiff, Nat.reduceLT, Nat.reduceBEq, ↓reduceIte, Int.reduceLE, Int.reduceLT, Int.reduceToNat, Int.reduceNeg, reduceCtorEq, Int.reduceEq, SF0, SF1, SF2, DWb0, DWa0, DLa0, DCg0, DCe0, DCe1, DCe2, DDb0, DBc0, DBc1, DKa0, DHb0, DHb1, DHa0, DDe0, DWc0]
        with_reducible refine awp_loop_h (G := Nat) 10 95 (fun i => [(10, .val (.int .i64 i))]) (fun _ => [.cells b.cs, .cells [.val (.int .i64 0), .val (.int .i64 0), .val (.int .i64 0), .val (.bool false), .val (.slice none 0 0)]]) (fun i => i ≤ S.length ∧ ∀ (i' : Nat) (x' : Int), i' < i → S[i']? = some x' → ¬ partOk l (2 + (g : Int)) x' = true) (fun i => S.length - i) 0 ⟨Nat.zero_le _, fun _ _ h => by omega⟩ ?_ (fun i hi => ?_)
        · simp (disch := omega) only [SX0, SX1, SX2, SX3, SX4, SX5, SX6, SX7, SX8, SU0, SY0, Nat.reduceAdd, Nat.reduceMul, Nat.reduceSub, Nat.reduceLeDiff, Nat.reduceEqDiff, Nat.reduceLT, Nat.reduceBEq, ↓reduceIte, Int.reduceLE, Int.reduceLT, Int.reduceToNat, Int.reduceNeg, reduceCtorEq, Int.reduceEq, SF0, SF1, SF2, DWb0, DWa0, DLa0, DCg0, DCe0, DCe1, DCe2, DDb0, DBc0, DBc1, DKa0, DHb0, DHb1, DHa0, DDe0, DWc0]
          (refine wk_le ?_ ?_ ?_; (focus (simp [W8, leTm, leAV, AV.under, underL, Box.under]; done)); (focus (simp [leL, OB.under, underL, AV.under, Box.under]; done)); (focus (simp; done)))
        obtain ⟨hi, hin⟩ := hi
        refine sx_sound (bl := []) T_tt _ _ _ ?_
        simp (disch := omega) only [SX0, SX1, SX2, SX3, SX4, SX5, SX6, SX7, SX8, SU0, SY0, Nat.reduceAdd, Nat.reduceMul, Nat.reduceSub, Nat.reduceLeDiff, Nat.reduceEqDiff, Nat.reduceLT, Nat.reduceBEq, ↓reduceIte, Int.reduceLE, Int.reduceLT, Int.reduceToNat, Int.reduceNeg, reduceCtorEq, Int.reduceEq, SF0, SF1, SF2, DWb0, DWa0, DLa0, DCg0, DCe0, DCe1, DCe2, DDb0, DBc0, DBc1, DKa0, DHb0, DHb1, DHa0, DDe0, DWc0]
        refine br_dec (fun h5 => ?_) (fun h5 => ?_)
        · obtain ⟨x, hx⟩ := get_lt (l := S) (i := i) (by omega)
          have hxS := hS x (List.mem_of_getElem? hx)
          simp (disch := omega) only [SX0, SX1, SX2, SX3, SX4, SX5, SX6, SX7, SX8, SU0, SY0, Nat.reduceAdd, Nat.reduceMul, Nat.reduceSub, Nat.reduceLeDiff, Nat.reduceEqDiff, Nat.reduceLT, Nat.reduceBEq, ↓reduceIte, Int.reduceLE, Int.reduceLT, Int.reduceToNat, Int.reduceNeg, reduceCtorEq, Int.reduceEq, SF0, SF1, SF2, DWb0, DWa0, DLa0, DCg0, DCe0, DCe1, DCe2, DDb0, DBc0, DBc1, DKa0, DHb0, DHb1, DHa0, DDe0, DWc0, hx]
          refine acall_one (partS_c l (2 + (g : Int)) x true hl hln) rfl rfl ?_
          simp (disch := omega) only [SX0, SX1, SX2, SX3, SX4, SX5, SX6, SX7, SX8, SU0, SY0, Nat.reduceAdd, Nat.reduceMul, Nat.reduceSub, Nat.reduceLeDiff, Nat.reduceEqDiff, Nat.reduceLT, Nat.reduceBEq, ↓reduceIte, Int.reduceLE, Int.reduceLT, Int.reduceToNat, Int.reduceNeg, reduceCtorEq, Int.reduceEq, SF0, SF1, SF2, DWb0, DWa0, DLa0, DCg0, DCe0, DCe1, DCe2, DDb0, DBc0, DBc1, DKa0, DHb0, DHb1, DHa0, DDe0, DWc0]
          refine br_bool (fun h6 => ?_) (fun h6 => ?_)
          · have B := hQ g x ⟨i, by omega, by rw [eS]; exact hx, h6, fun i' x' hi' hx' => hin i' x' hi' (by rw [← eS]; exact hx'), hgp⟩
            rw [eF] at B
            simp (disch := omega) only [SX0, SX1, SX2, SX3, SX4, SX5, SX6, SX7, SX8, SU0, SY0, Nat.reduceAdd, Nat.reduceMul, Nat.reduceSub, Nat.reduceLeDiff, Nat.reduceEqDiff, Nat.reduceLT, Nat.reduceBEq, ↓reduceIte, Int.reduceLE, Int.reduceLT, Int.reduceToNat, Int.reduceNeg, reduceCtorEq, Int.reduceEq, SF0, SF1, SF2, DWb0, DWa0, DLa0, DCg0, DCe0, DCe1, DCe2, DDb0, DBc0, DBc1, DKa0, DHb0, DHb1, DHa0, DDe0, DWc0, hx]
            refine acall_one (partS_c l (2 + (g : Int)) x false hl hln) rfl rfl ?_
            simp (disch := omega) only [SX0, SX1, SX2, SX3, SX4, SX5, SX6, SX7, SX8, SU0, SY0, Nat.reduceAdd, Nat.reduceMul, Nat.reduceSub, Nat.reduceLeDiff, Nat.reduceEqDiff, Nat.reduceLT, Nat.reduceBEq, ↓reduceIte, Int.reduceLE, Int.reduceLT, Int.reduceToNat, Int.reduceNeg, reduceCtorEq, Int.reduceEq, SF0, SF1, SF2, DWb0, DWa0, DLa0, DCg0, DCe0, DCe1, DCe2, DDb0, DBc0, DBc1, DKa0, DHb0, DHb1, DHa0, DDe0, DWc0]
            refine awp_float (bl := []) T_tt mixed [0, 1] [0, 1, 2, 3, 4, 5, 6, 7, 8, 9, 10, 11, 12] [(13, [(0, .f 91), (1, .f 92), (2, .f 93), (3, .f 94), (4, .f 95), (5, .f 96), (6, .f 97), (7, .f 98), (8, .f 99), (9, .f 100), (10, .f 101), (11, .f 102), (12, .f 103)]), (14, [])] [] (by kernel_rfl) (by kernel_rfl) ?_
            simp (disch := omega) only [SX0, SX1, SX2, SX3, SX4, SX5, SX6, SX7, SX8, SU0, SY0, Nat.reduceAdd, Nat.reduceMul, Nat.reduceSub, Nat.reduceLeDiff, Nat.reduceEqDiff, Nat.reduceLT, Nat.reduceBEq, ↓reduceIte, Int.reduceLE, Int.reduceLT, Int.reduceToNat, Int.reduceNeg, reduceCtorEq, Int.reduceEq, SF0, SF1, SF2, DWb0, DWa0, DLa0, DCg0, DCe0, DCe1, DCe2, DDb0, DBc0, DBc1, DKa0, DHb0, DHb1, DHa0, DDe0, DWc0, hx]
            refine qc_one B (by simp [freeL, AV.free, Box.free]) ?_
            simp (disch := omega) only [SX0, SX1, SX2, SX3, SX4, SX5, SX6, SX7, SX8, SU0, SY0, Nat.reduceAdd, Nat.reduceMul, Nat.reduceSub, Nat.reduceLeDiff, Nat.reduceEqDiff, Nat.reduceLT, Nat.reduceBEq, ↓reduceIte, Int.reduceLE, Int.reduceLT, Int.reduceToNat, Int.reduceNeg, reduceCtorEq, Int.reduceEq, SF0, SF1, SF2, DWb0, DWa0, DLa0, DCg0, DCe0, DCe1, DCe2, DDb0, DBc0, DBc1, DKa0, DHb0, DHb1, DHa0, DDe0, DWc0]
            exact fin_free (by simp [AV.free, freeL, Plan.free]) ⟨rfl, rfl⟩
          · simp (disch := omega) only [SX0, SX1, SX2, SX3, SX4, SX5, SX6, SX7, SX8, SU0, SY0, Nat.reduceAdd, Nat.reduceMul, Nat.reduceSub, Nat.reduceLeDiff, Nat.reduceEqDiff, Nat.reduceLT, Nat.reduceBEq, ↓reduceIte, Int.reduceLE, Int.reduceLT, Int.reduceToNat, Int.reduceNeg, reduceCtorEq, Int.reduceEq, SF0, SF1, SF2, DWb0, DWa0, DLa0, DCg0, DCe0, DCe1, DCe2, DDb0, DBc0, DBc1, DKa0, DHb0, DHb1, DHa0, DDe0, DWc0]
            refine ⟨i + 1, ⟨by omega, fun i' x' hi' hx' => ?_⟩, by omega, ?_⟩
            · by_cases e : i' = i
              · rw [e, hx] at hx'; cases hx'; simp [h6]
              · exact hin i' x' (by omega) hx'
            (refine wk_le ?_ ?_ ?_; (focus (simp [W8, leTm, leAV, AV.under, underL, Box.under]; done)); (focus (simp [leL, OB.under, underL, AV.under, Box.under]; done)); (focus (simp; done)))
        · simp (disch := omega) only [SX0, SX1, SX2, SX3, SX4, SX5, SX6, SX7, SX8, SU0, SY0, Nat.reduceAdd, Nat.reduceMul, Nat.reduceSub, Nat.reduceLeDiff, Nat.reduceEqDiff, Nat.reduceLT, Nat.reduceBEq, ↓reduceIte, Int.reduceLE, Int.reduceLT, Int.reduceToNat, Int.reduceNeg, reduceCtorEq, Int.reduceEq, SF0, SF1, SF2, DWb0, DWa0, DLa0, DCg0, DCe0, DCe1, DCe2, DDb0, DBc0, DBc1, DKa0, DHb0, DHb1, DHa0, DDe0, DWc0]
          refine ⟨g + 1, ⟨by omega, fun g' i' x' hg' hx' => ?_⟩, by omega, ?_⟩
          · by_cases e : g' = g
            · subst e
              rw [eS] at hx'
              exact hin i' x' (by have := (List.getElem?_eq_some_iff.1 hx').1; omega) hx'
            · exact hgp g' i' x' (by omega) hx'
          have e : (2 : Int) + g + 1 = 2 + (g + 1) := by omega
          (refine wk_le ?_ ?_ ?_; (focus (simp [W8, leTm, leAV, AV.under, underL, Box.under, e]; done)); (focus (simp [leL, OB.under, underL, AV.under, Box.under, e]; done)); (focus (simp; done)))
    · have hno : ¬ ∃ g x, HitP l b g x := fun hh => by
        obtain ⟨g1, x1, i1, hh1, hh2, hh3, hh4, hh5⟩ := hh
        exact hgp g1 i1 x1 (by omega) hh2 hh3
      obtain ⟨rfl, rfl⟩ := hN hno
      simp (disch := omega) only [SX0, SX1, SX2, SX3, SX4, SX5, SX6, SX7, SX8, SU0, SY0, Nat.reduceAdd, Nat.reduceMul, Nat.reduceSub, Nat.reduceLeDiff, Nat.reduceEqDiff, Nat.reduceLT, Nat.reduceBEq, ↓reduceIte, Int.reduceLE, Int.reduceLT, Int.reduceToNat, Int.reduceNeg, reduceCtorEq, Int.reduceEq, SF0, SF1, SF2, DWb0, DWa0, DLa0, DCg0, DCe0, DCe1, DCe2, DDb0, DBc0, DBc1, DKa0, DHb0, DHb1, DHa0, DDe0, DWc0]
      refine fin_nrm ?_
      simp only [AV.nrm, nrmL]
      exact fin_free rfl ⟨by rw [Plan.zero_cs], rfl⟩

theorem planForS_s (n : Nat) (ih : ∀ m, m + 1 = n → PlanForC m) : PlanForC n := by
  intro l b hl hln hbx hby hn
  by_cases h1 : l.length = 0
  · exact ⟨_, _, planForS_zero l b h1⟩
  obtain ⟨q0, hq0⟩ := get_lt (l := l) (i := 0) (by omega)
  by_cases hne : l.length = 1 ∧ q0.box = b
  · exact ⟨_, _, planForS_one l b q0 hq0 hne⟩
  have hQN : ∃ (q : Plan) (ok : Bool), (∀ g x, HitP l b g x → ACalls Try.prog 53 [.sl ((partL l (2 + (g : Int)) x true).map Place.cs), .sl ((partL l (2 + (g : Int)) x false).map Place.cs), .agg b.cs, .val (.int .i64 (2 + (g : Int))), .val (.int .i64 (x - frP b g))] [] [] (fun r L => r = .tup [.agg q.cs, .val (.bool ok)] ∧ L = [])) ∧ ((¬ ∃ g x, HitP l b g x) → q = .zero ∧ ok = false) := by
    by_cases hh : ∃ g x, HitP l b g x
    · obtain ⟨g, x, hx⟩ := hh
      have hxr : frP b g < x ∧ x < (if g = 1 then b.Y + b.H else b.X + b.W) := by
        obtain ⟨i, _, k2, _⟩ := hx
        exact edgesL_rng (List.mem_of_getElem? k2)
      have hg2 : g < 2 := by obtain ⟨i, k1, _⟩ := hx; exact k1
      have hat : 1 ≤ x - frP b g ∧ ((2 + (g : Int)) = 3 → x - frP b g < b.H) ∧ ((2 + (g : Int)) ≠ 3 → x - frP b g < b.W) := by
        unfold frP at *
        by_cases e : g = 1
        · rw [if_pos e] at *; rw [if_pos e] at hxr; omega
        · rw [if_neg e] at *; rw [if_neg e] at hxr; omega
      have hn1 : 1 ≤ n := by
        by_cases e : (2 + (g : Int)) = 3
        · have := hat.2.1 e; omega
        · have := hat.2.2 e; omega
      obtain ⟨q, ok, hA⟩ := bothSidesS_c (n - 1) (ih (n - 1) (by omega)) (partL l (2 + (g : Int)) x true) (partL l (2 + (g : Int)) x false) b (2 + (g : Int)) (x - frP b g) (Nat.le_trans (partL_len _ _ _ _) hl) (Nat.le_trans (partL_len _ _ _ _) hl) (fun q hq => hln q (partL_sub hq)) (fun q hq => hln q (partL_sub hq)) hbx hby (by omega) hat
      refine ⟨q, ok, fun g' x' hx' => ?_, fun hno => absurd ⟨g, x, hx⟩ hno⟩
      obtain ⟨e1, e2⟩ := hx.uniq hx'
      subst e1; subst e2
      exact hA
    · exact ⟨.zero, false, fun g x hx => absurd ⟨g, x, hx⟩ hh, fun _ => ⟨rfl, rfl⟩⟩
  obtain ⟨q, ok, hQ, hN⟩ := hQN
  exact ⟨q, ok, planForS_w l b hl hln hbx hby h1 q0 hq0 hne q ok hQ hN⟩

theorem planForS_n : ∀ n, PlanForC n := fun n => by
  induction n with
  | zero => exact planForS_s 0 fun m h => by omega
  | succ n ih => exact planForS_s (n + 1) fun m h => by rw [show m = n from by omega]; exact ih

end Go.Pc
