/- Plans that are found again from places: what is drawn of them. -/
import Derived.Test.YtokghjmmdnhbeaaEs
import Derived.Test.YtokghjmmdnhbeaaSd
import Derived.Test.YtokghjmmdnhbeaaMp
set_option linter.unusedSimpArgs false
set_option linter.unusedVariables false
namespace Go.Pc
open Go Go.Proofs

/-- Near the glass. -/
def Box.near (b : Box) : Prop := (-1000 ≤ b.X ∧ b.X ≤ 1000) ∧ (-1000 ≤ b.Y ∧ b.Y ≤ 1000) ∧ (-1000 ≤ b.W ∧ b.W ≤ 1000) ∧ (-1000 ≤ b.H ∧ b.H ≤ 1000)

theorem Place.g2 (b : Place) : b.cs[2]? = some (.val (.int .i64 b.box.X)) := rfl
theorem Place.g3 (b : Place) : b.cs[3]? = some (.val (.int .i64 b.box.Y)) := rfl
theorem Place.g4 (b : Place) : b.cs[4]? = some (.val (.int .i64 b.box.W)) := rfl
theorem Place.g5 (b : Place) : b.cs[5]? = some (.val (.int .i64 b.box.H)) := rfl
theorem DWa0 : type_of% @Place.g2 ∧ type_of% @Place.g3 ∧ type_of% @Place.g4 ∧ type_of% @Place.g5 := ⟨@Place.g2, @Place.g3, @Place.g4, @Place.g5⟩

/-- The places of cuts. -/
def meetsE (op at_ : Int) (q : Place) : Prop := if op = 3 then at_ = q.box.Y ∨ at_ = q.box.Y + q.box.H else at_ = q.box.X ∨ at_ = q.box.X + q.box.W
open Classical in
noncomputable def edgeStep (op at_ : Int) (S : List Int) (q : Place) : List Int := if meetsE op at_ q ∧ at_ ∉ S then S ++ [at_] else S
noncomputable def edgesN (l : List Place) (op fr : Int) : Nat → List Int
  | 0 => []
  | n + 1 => l.foldl (edgeStep op (fr + 1 + n)) (edgesN l op fr n)
noncomputable def edgesL (l : List Place) (op fr to : Int) : List Int := edgesN l op fr (to - fr - 1).toNat
theorem foldl_step {op at_ x : Int} : ∀ {l : List Place} {S : List Int}, x ∈ l.foldl (edgeStep op at_) S → x ∈ S ∨ x = at_
  | [], S, h => .inl h
  | q :: l, S, h => by
    rcases foldl_step (l := l) h with h | h
    · unfold edgeStep at h
      split at h
      · rcases List.mem_append.1 h with h | h
        · exact .inl h
        · exact .inr (List.mem_singleton.1 h)
      · exact .inl h
    · exact .inr h
theorem edgesN_rng {l : List Place} {op fr x : Int} : ∀ {n : Nat}, x ∈ edgesN l op fr n → fr < x ∧ x < fr + 1 + n
  | 0, h => by simp [edgesN] at h
  | n + 1, h => by
    rcases foldl_step h with h | h
    · have := edgesN_rng h; omega
    · omega
theorem edgesL_rng {l : List Place} {op fr to x : Int} (h : x ∈ edgesL l op fr to) : fr < x ∧ x < to := by
  have := edgesN_rng h
  omega
theorem foldl_next {α β : Type} {f : β → α → β} {b : β} {l : List α} {i : Nat} {x : α} (h : l[i]? = some x) : (l.take (i + 1)).foldl f b = f ((l.take i).foldl f b) x := by
  rw [List.take_add_one, h, List.foldl_append]; rfl

theorem e_edgesS : Enters Try.prog 51 := enters_of Try.func51 (by kernel_rfl) (by kernel_rfl)
set_option maxRecDepth 8000 in
set_option maxHeartbeats 4000000 in
theorem edgesS_r (l : List Place) (op fr to : Int) (hl : l.length ≤ 1048576) (hn : ∀ q ∈ l, q.box.near) (hfr : -1000 ≤ fr ∧ fr ≤ 1000) (hto : -1000 ≤ to ∧ to ≤ 2000) : ACalls Try.prog 51 [.sl (l.map Place.cs), .val (.int .i64 op), .val (.int .i64 fr), .val (.int .i64 to)] [] [] (fun r L => (r = .sl (ints (edgesL l op fr to)) ∧ L = []) ∧ ∀ x ∈ edgesL l op fr to, fr < x ∧ x < to) := by
  refine acalls_tm T_tt Try.func51 rfl e_edgesS 69 rfl (W8 _ _ _ _ .any .any .any .any (W8 .any .any .any .any .any .any .any .any (W8 .any .any .any .any .any .any .any .any (W8 .any .any .any .any .any .any .any .any (W8 .any .any .any .any .any .any .any .any (W8 .any .any .any .any .any .any .any .any (W8 .any .any .any .any .any .any .any .any (W8 .any .any .any .any .any .any .any .any (W8 .any .any .any .any .any .any .any .any [.any]))))))))) rfl (rv := [.tmp 8]) rfl (sx_sound (bl := [14]) T_tt _ _ _ ?_)
  simp (disch := omega) only [SX0, SX1, SX2, SX3, SX4, SX5, SX6, SX7, SX8, SU0, SY0, Nat.reduceAdd, Nat.reduceMul, Nat.reduceSub, Nat.reduceLeDiff, Nat.reduceEqDiff, Nat.reduceLT, Nat.reduceBEq, ↓reduceIte, Int.reduceLE, Int.reduceLT, Int.reduceToNat, Int.reduceNeg, reduceCtorEq, Int.reduceEq, SF0, SF1, SF2, DLa0, DCg0, DCe0, DCe1, DCe2, DDb0, DBc0, DBc1, DKa0, DHb0, DHb1, DHa0, DDe0, DWa0]
  with_reducible refine awp_loop_h (G := List Int × Nat) 10 63 (fun g => [(9, .os 0 1 0 g.1.length), (10, .val (.int .i64 (fr + 1 + g.2)))]) (fun g => [.vec 1 (ints g.1)]) (fun g => (∀ x ∈ g.1, fr < x ∧ x < to) ∧ g.1.length ≤ g.2 ∧ g.2 ≤ 4000 ∧ (g.2 : Int) ≤ max 0 (to - fr - 1) ∧ g.1 = edgesN l op fr g.2) (fun g => 4000 - g.2) ([], 0) ⟨by simp, by simp, by simp, by simp only []; omega, rfl⟩ ?_ (fun g hg => ?_)
  · simp (disch := omega) only [SX0, SX1, SX2, SX3, SX4, SX5, SX6, SX7, SX8, SU0, SY0, Nat.reduceAdd, Nat.reduceMul, Nat.reduceSub, Nat.reduceLeDiff, Nat.reduceEqDiff, Nat.reduceLT, Nat.reduceBEq, ↓reduceIte, Int.reduceLE, Int.reduceLT, Int.reduceToNat, Int.reduceNeg, reduceCtorEq, Int.reduceEq, SF0, SF1, SF2, DLa0, DCg0, DCe0, DCe1, DCe2, DDb0, DBc0, DBc1, DKa0, DHb0, DHb1, DHa0, DDe0, DWa0]
    (refine wk_le ?_ ?_ ?_; (focus (simp [W8, leTm, leAV, AV.under, underL]; done)); (focus (simp [leL, OB.under, underL, AV.under]; done)); (focus (simp; done)))
  obtain ⟨S, n⟩ := g
  simp only at hg
  obtain ⟨hg1, hg2, hg3, hg4, hg5⟩ := hg
  refine sx_sound (bl := []) T_tt _ _ _ ?_
  simp (disch := omega) only [SX0, SX1, SX2, SX3, SX4, SX5, SX6, SX7, SX8, SU0, SY0, Nat.reduceAdd, Nat.reduceMul, Nat.reduceSub, Nat.reduceLeDiff, Nat.reduceEqDiff, Nat.reduceLT, Nat.reduceBEq, ↓reduceIte, Int.reduceLE, Int.reduceLT, Int.reduceToNat, Int.reduceNeg, reduceCtorEq, Int.reduceEq, SF0, SF1, SF2, DLa0, DCg0, DCe0, DCe1, DCe2, DDb0, DBc0, DBc1, DKa0, DHb0, DHb1, DHa0, DDe0, DWa0]
  refine br_dec (fun h1 => ?_) (fun h1 => ?_)
  · simp (disch := omega) only [SX0, SX1, SX2, SX3, SX4, SX5, SX6, SX7, SX8, SU0, SY0, Nat.reduceAdd, Nat.reduceMul, Nat.reduceSub, Nat.reduceLeDiff, Nat.reduceEqDiff, Nat.reduceLT, Nat.reduceBEq, ↓reduceIte, Int.reduceLE, Int.reduceLT, Int.reduceToNat, Int.reduceNeg, reduceCtorEq, Int.reduceEq, SF0, SF1, SF2, DLa0, DCg0, DCe0, DCe1, DCe2, DDb0, DBc0, DBc1, DKa0, DHb0, DHb1, DHa0, DDe0, DWa0]
    with_reducible refine awp_loop_h (G := List Int × Nat) 11 62 (fun g => [(9, .os 0 1 0 g.1.length), (11, .val (.int .i64 g.2))]) (fun g => [.vec 1 (ints g.1)]) (fun g => g.2 ≤ l.length ∧ (∀ x ∈ g.1, fr < x ∧ x < to) ∧ g.1.length ≤ n + 1 ∧ (fr + 1 + n ∉ g.1 → g.1.length ≤ n) ∧ g.1 = (l.take g.2).foldl (edgeStep op (fr + 1 + n)) S) (fun g => l.length - g.2) (S, 0) ⟨by simp, hg1, by simp only []; omega, fun _ => hg2, rfl⟩ ?_ (fun g hg => ?_)
    · simp (disch := omega) only [SX0, SX1, SX2, SX3, SX4, SX5, SX6, SX7, SX8, SU0, SY0, Nat.reduceAdd, Nat.reduceMul, Nat.reduceSub, Nat.reduceLeDiff, Nat.reduceEqDiff, Nat.reduceLT, Nat.reduceBEq, ↓reduceIte, Int.reduceLE, Int.reduceLT, Int.reduceToNat, Int.reduceNeg, reduceCtorEq, Int.reduceEq, SF0, SF1, SF2, DLa0, DCg0, DCe0, DCe1, DCe2, DDb0, DBc0, DBc1, DKa0, DHb0, DHb1, DHa0, DDe0, DWa0]
      (refine wk_le ?_ ?_ ?_; (focus (simp [W8, leTm, leAV, AV.under, underL]; done)); (focus (simp [leL, OB.under, underL, AV.under]; done)); (focus (simp; done)))
    obtain ⟨S2, i⟩ := g
    simp only at hg
    obtain ⟨j1, j2, j3, j4, j5⟩ := hg
    have hS40 : S2.length < 2 ^ 40 := by omega
    refine sx_sound (bl := []) T_tt _ _ _ ?_
    simp (disch := omega) only [SX0, SX1, SX2, SX3, SX4, SX5, SX6, SX7, SX8, SU0, SY0, Nat.reduceAdd, Nat.reduceMul, Nat.reduceSub, Nat.reduceLeDiff, Nat.reduceEqDiff, Nat.reduceLT, Nat.reduceBEq, ↓reduceIte, Int.reduceLE, Int.reduceLT, Int.reduceToNat, Int.reduceNeg, reduceCtorEq, Int.reduceEq, SF0, SF1, SF2, DLa0, DCg0, DCe0, DCe1, DCe2, DDb0, DBc0, DBc1, DKa0, DHb0, DHb1, DHa0, DDe0, DWa0]
    refine br_dec (fun h2 => ?_) (fun h2 => ?_)
    · obtain ⟨q, hq⟩ := get_lt (l := l) (i := i) (by omega)
      have hqn := hn q (List.mem_of_getElem? hq)
      obtain ⟨n1, n2, n3, n4⟩ := hqn
      generalize hat : fr + 1 + (n : Int) = at_ at *
      have e9 := foldl_next (f := edgeStep op at_) (b := S) hq
      rw [← j5] at e9
      simp (disch := omega) only [SX0, SX1, SX2, SX3, SX4, SX5, SX6, SX7, SX8, SU0, SY0, Nat.reduceAdd, Nat.reduceMul, Nat.reduceSub, Nat.reduceLeDiff, Nat.reduceEqDiff, Nat.reduceLT, Nat.reduceBEq, ↓reduceIte, Int.reduceLE, Int.reduceLT, Int.reduceToNat, Int.reduceNeg, reduceCtorEq, Int.reduceEq, SF0, SF1, SF2, DLa0, DCg0, DCe0, DCe1, DCe2, DDb0, DBc0, DBc1, DKa0, DHb0, DHb1, DHa0, DDe0, DWa0, hq, Place.drop_box, Place.drop_pb]
      repeat' first | with_reducible refine fin_val ⟨?_, rfl⟩ | with_reducible refine br_dec (fun hb => ?_) (fun hb => ?_) | with_reducible refine br_ndec (fun hb => ?_) (fun hb => ?_) | with_reducible refine br_bool (fun hb => ?_) (fun hb => ?_) | with_reducible refine pk_dec (fun hb => ?_) (fun hb => ?_) | with_reducible refine pk_ndec (fun hb => ?_) (fun hb => ?_) | with_reducible refine awp_drawA T_tt mixed (by decide +kernel) (by kernel_rfl) (by kernel_rfl) ?_ | simp (disch := omega) only [SX0, SX1, SX2, SX3, SX4, SX5, SX6, SX7, SX8, SU0, SY0, Nat.reduceAdd, Nat.reduceMul, Nat.reduceSub, Nat.reduceLeDiff, Nat.reduceEqDiff, Nat.reduceLT, Nat.reduceBEq, ↓reduceIte, Int.reduceLE, Int.reduceLT, Int.reduceToNat, Int.reduceNeg, reduceCtorEq, Int.reduceEq, SF0, SF1, SF2, DLa0, DCg0, DCe0, DCe1, DCe2, DDb0, DBc0, DBc1, DKa0, DHb0, DHb1, DHa0, DDe0, DWa0, hq, Place.drop_box, Place.drop_pb] | refine placeIn_own hS40 rfl _ ?_ | refine req (by omega) ?_
      all_goals first
        | (focus
           have h7 : edgeStep op at_ S2 q = S2 := by
             unfold edgeStep
             refine if_neg fun h => ?_
             obtain ⟨hm, hmem⟩ := h
             first
               | exact absurd (placeI_neg.2 hmem) (by omega)
               | (unfold meetsE at hm; split at hm <;> omega)
           refine ⟨(S2, i + 1), ⟨by simp only []; omega, j2, j3, j4, by simp only []; rw [e9, h7]⟩, by simp only []; omega, ?_⟩
           (refine wk_le ?_ ?_ ?_; (focus (simp [W8, leTm, leAV, AV.under, underL]; done)); (focus (simp [leL, OB.under, underL, AV.under]; done)); (focus (simp; done)))
           done)
        | (focus
           have h9 : at_ ∉ S2 := placeI_neg.1 (by assumption)
           have h8 := j4 h9
           have h7 : edgeStep op at_ S2 q = S2 ++ [at_] := by
             unfold edgeStep
             refine if_pos ⟨?_, h9⟩
             unfold meetsE; split <;> omega
           refine ⟨(S2 ++ [at_], i + 1), ⟨by simp only []; omega, fun x hx => ?_, by simp; omega, fun hx => absurd (by simp) hx, by simp only []; rw [e9, h7]⟩, by simp only []; omega, ?_⟩
           · rcases List.mem_append.1 hx with hx | hx
             · exact j2 x hx
             · rw [List.mem_singleton.1 hx]; omega
           (refine wk_le ?_ ?_ ?_; (focus (simp [W8, leTm, leAV, AV.under, underL]; done)); (focus (simp [leL, OB.under, underL, AV.under]; done)); (focus (simp; done)))
           done)
    · simp (disch := omega) only [SX0, SX1, SX2, SX3, SX4, SX5, SX6, SX7, SX8, SU0, SY0, Nat.reduceAdd, Nat.reduceMul, Nat.reduceSub, Nat.reduceLeDiff, Nat.reduceEqDiff, Nat.reduceLT, Nat.reduceBEq, ↓reduceIte, Int.reduceLE, Int.reduceLT, Int.reduceToNat, Int.reduceNeg, reduceCtorEq, Int.reduceEq, SF0, SF1, SF2, DLa0, DCg0, DCe0, DCe1, DCe2, DDb0, DBc0, DBc1, DKa0, DHb0, DHb1, DHa0, DDe0, DWa0]
      have e : fr + 1 + (n : Int) + 1 = fr + 1 + ((n : Int) + 1) := by omega
      have hi : i = l.length := by omega
      have h5 : S2 = edgesN l op fr (n + 1) := by rw [j5, hi, List.take_length, hg5]; rfl
      refine ⟨(S2, n + 1), ⟨j2, by simp only []; omega, by simp only []; omega, by simp only []; omega, h5⟩, by simp only []; omega, ?_⟩
      (refine wk_le ?_ ?_ ?_; (focus (simp [W8, leTm, leAV, AV.under, underL, e]; done)); (focus (simp [leL, OB.under, underL, AV.under, e]; done)); (focus (simp; done)))
  · simp (disch := omega) only [SX0, SX1, SX2, SX3, SX4, SX5, SX6, SX7, SX8, SU0, SY0, Nat.reduceAdd, Nat.reduceMul, Nat.reduceSub, Nat.reduceLeDiff, Nat.reduceEqDiff, Nat.reduceLT, Nat.reduceBEq, ↓reduceIte, Int.reduceLE, Int.reduceLT, Int.reduceToNat, Int.reduceNeg, reduceCtorEq, Int.reduceEq, SF0, SF1, SF2, DLa0, DCg0, DCe0, DCe1, DCe2, DDb0, DBc0, DBc1, DKa0, DHb0, DHb1, DHa0, DDe0, DWa0]
    have h5 : edgesL l op fr to = S := by
      unfold edgesL
      rw [show (to - fr - 1).toNat = n by omega, hg5]
    rw [h5]
    exact fin_row rfl (by simp [ints]) ⟨⟨rfl, rfl⟩, hg1⟩

theorem edgesS_c (l : List Place) (op fr to : Int) (hl : l.length ≤ 1048576) (hn : ∀ q ∈ l, q.box.near) (hfr : -1000 ≤ fr ∧ fr ≤ 1000) (hto : -1000 ≤ to ∧ to ≤ 2000) : ACalls Try.prog 51 [.sl (l.map Place.cs), .val (.int .i64 op), .val (.int .i64 fr), .val (.int .i64 to)] [] [] (fun r L => r = .sl (ints (edgesL l op fr to)) ∧ L = []) :=
  (edgesS_r l op fr to hl hn hfr hto).mono fun _ _ h => h.1

end Go.Pc
