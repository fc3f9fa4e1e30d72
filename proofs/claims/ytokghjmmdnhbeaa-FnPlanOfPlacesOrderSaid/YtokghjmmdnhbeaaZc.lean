/- Plans that are found from places: the program's cuts. -/
import Derived.Test.YtokghjmmdnhbeaaZb
import Derived.Test.YtokghjmmdnhbeaaMb
set_option linter.unusedSimpArgs false
set_option linter.unusedVariables false
namespace Go.Pc
open Go Go.Proofs

/-- A point where a span begins or ends, inside of none. -/
def LC (sp : List (Int × Int)) (gf gt a : Int) : Prop := gf < a ∧ a < gt ∧ (∃ s ∈ sp, a = s.1 ∨ a = s.2) ∧ ∀ s ∈ sp, ¬ (s.1 < a ∧ a < s.2)
def spRow (s : Int × Int) : List AV := [.val (.int .i64 s.1), .val (.int .i64 s.2)]
theorem ex_next {α : Type} {P : α → Prop} {l l' : List α} {s : α} (h : ∀ x, x ∈ l' ↔ x ∈ l ∨ x = s) : (∃ x ∈ l', P x) ↔ (∃ x ∈ l, P x) ∨ P s :=
  ⟨fun ⟨x, hx, hp⟩ => ((h x).1 hx).elim (fun hx => .inl ⟨x, hx, hp⟩) (fun e => .inr (e ▸ hp)), fun hh => hh.elim (fun ⟨x, hx, hp⟩ => ⟨x, (h x).2 (.inl hx), hp⟩) (fun hp => ⟨s, (h s).2 (.inr rfl), hp⟩)⟩
theorem LC.lt {sp : List (Int × Int)} {gf gt a : Int} (h : LC sp gf gt a) : gf < a ∧ a < gt := ⟨h.1, h.2.1⟩
theorem spRow_len (s : Int × Int) : (spRow s).length = 2 := rfl
theorem spRow_take (s : Int × Int) : (spRow s).take 2 = spRow s := rfl
theorem spRow_g0 (s : Int × Int) : (spRow s)[0]? = some (.val (.int .i64 s.1)) := rfl
theorem spRow_g1 (s : Int × Int) : (spRow s)[1]? = some (.val (.int .i64 s.2)) := rfl
theorem spRow_one (s : Int × Int) : (spRow s).all AV.one = true := rfl
theorem spRow_pure (s : Int × Int) : (spRow s).all AV.pure = true := rfl
theorem spRow_under (s : Int × Int) (m : Nat) : underL m (spRow s) = true := rfl
theorem DZc0 : type_of% @spRow_len ∧ type_of% @spRow_take ∧ type_of% @spRow_g0 ∧ type_of% @spRow_g1 ∧ type_of% @spRow_one ∧ type_of% @spRow_pure := ⟨@spRow_len, @spRow_take, @spRow_g0, @spRow_g1, @spRow_one, @spRow_pure⟩

theorem e_leastCutI : Enters Try.prog 66 := enters_of Try.func66 (by kernel_rfl) (by kernel_rfl)
set_option maxRecDepth 8000 in
set_option maxHeartbeats 4000000 in
theorem leastCutI_c (sp : List (Int × Int)) (gf gt : Int) (hl : sp.length ≤ 1000000) (hf : -1000 ≤ gf ∧ gf ≤ 1000) (ht : -2000 ≤ gt ∧ gt ≤ 2000) : ACalls Try.prog 66 [.sl (sp.map spRow), .agg (spRow (gf, gt))] [] [] (fun r L => (∃ (a : Int) (ok : Bool), r = .tup [.val (.int .i64 a), .val (.bool ok)] ∧ (ok = true → LC sp gf gt a ∧ ∀ c, c < a → ¬ LC sp gf gt c) ∧ (ok = false → ∀ c, ¬ LC sp gf gt c)) ∧ L = []) := by
  refine acalls_tm T_tt Try.func66 rfl e_leastCutI 51 rfl (W8 _ _ .any .any .any .any .any .any (W8 .any .any .any .any .any .any .any .any (W8 .any .any .any .any .any .any .any .any (W8 .any .any .any .any .any .any .any .any (W8 .any .any .any .any .any .any .any .any (W8 .any .any .any .any .any .any .any .any [.any, .any, .any, .any, .any])))))) rfl (rv := [.tmp 4, .tmp 5]) rfl (sx_sound (bl := []) T_tt _ _ _ ?_)
  simp (disch := omega) only [SX0, SX1, SX2, SX3, SX4, SX5, SX6, SX7, SX8, SU0, SY0, Nat.reduceAdd, Nat.reduceMul, Nat.reduceSub, Nat.reduceLeDiff, Nat.reduceEqDiff, Nat.reduceLT, Nat.reduceBEq, ↓reduceIte, Int.reduceLE, Int.reduceLT, Int.reduceToNat, Int.reduceNeg, reduceCtorEq, Int.reduceEq, SF0, SF1, SF2, DWb0, DWa0, DLa0, DCg0, DCe0, DCe1, DCe2, DDb0, DBc0, DBc1, DKa0, DHb0, DHb1, DHa0, DDe0, DZc0]
  with_reducible refine awp_loop_h (G := Nat) 7 46 (fun n => [(6, .val (.int .i64 (gf + 1 + n)))]) (fun _ => [.cells (spRow (gf, gt))]) (fun n => n ≤ 4000 ∧ ∀ c, c < gf + 1 + n → ¬ LC sp gf gt c) (fun n => 4000 - n) 0 ⟨by omega, fun c hc h => by have := h.lt; omega⟩ ?_ (fun n hn => ?_)
  · simp (disch := omega) only [SX0, SX1, SX2, SX3, SX4, SX5, SX6, SX7, SX8, SU0, SY0, Nat.reduceAdd, Nat.reduceMul, Nat.reduceSub, Nat.reduceLeDiff, Nat.reduceEqDiff, Nat.reduceLT, Nat.reduceBEq, ↓reduceIte, Int.reduceLE, Int.reduceLT, Int.reduceToNat, Int.reduceNeg, reduceCtorEq, Int.reduceEq, SF0, SF1, SF2, DWb0, DWa0, DLa0, DCg0, DCe0, DCe1, DCe2, DDb0, DBc0, DBc1, DKa0, DHb0, DHb1, DHa0, DDe0, DZc0]
    (refine wk_le ?_ ?_ ?_; (focus (simp [W8, leTm, leAV, AV.under, underL, spRow_under]; done)); (focus (simp [leL, OB.under, underL, AV.under, spRow_under]; done)); (focus (simp; done)))
  obtain ⟨hn1, hn2⟩ := hn
  refine sx_sound (bl := []) T_tt _ _ _ ?_
  simp (disch := omega) only [SX0, SX1, SX2, SX3, SX4, SX5, SX6, SX7, SX8, SU0, SY0, Nat.reduceAdd, Nat.reduceMul, Nat.reduceSub, Nat.reduceLeDiff, Nat.reduceEqDiff, Nat.reduceLT, Nat.reduceBEq, ↓reduceIte, Int.reduceLE, Int.reduceLT, Int.reduceToNat, Int.reduceNeg, reduceCtorEq, Int.reduceEq, SF0, SF1, SF2, DWb0, DWa0, DLa0, DCg0, DCe0, DCe1, DCe2, DDb0, DBc0, DBc1, DKa0, DHb0, DHb1, DHa0, DDe0, DZc0]
  refine br_dec (fun h1 => ?_) (fun h1 => ?_)
  · simp (disch := omega) only [SX0, SX1, SX2, SX3, SX4, SX5, SX6, SX7, SX8, SU0, SY0, Nat.reduceAdd, Nat.reduceMul, Nat.reduceSub, Nat.reduceLeDiff, Nat.reduceEqDiff, Nat.reduceLT, Nat.reduceBEq, ↓reduceIte, Int.reduceLE, Int.reduceLT, Int.reduceToNat, Int.reduceNeg, reduceCtorEq, Int.reduceEq, SF0, SF1, SF2, DWb0, DWa0, DLa0, DCg0, DCe0, DCe1, DCe2, DDb0, DBc0, DBc1, DKa0, DHb0, DHb1, DHa0, DDe0, DZc0]
    with_reducible refine awp_loop_h (G := Nat × Bool × Bool) 9 44 (fun g => [(7, .val (.bool g.2.1)), (8, .val (.bool g.2.2)), (20, .sl (sp.map spRow)), (21, .val (.int .i64 sp.length)), (22, .val (.int .i64 g.1))]) (fun _ => [.cells (spRow (gf, gt))]) (fun g => g.1 ≤ sp.length ∧ (g.2.1 = true ↔ ∃ s ∈ sp.take g.1, gf + 1 + n = s.1 ∨ gf + 1 + n = s.2) ∧ (g.2.2 = true ↔ ∃ s ∈ sp.take g.1, s.1 < gf + 1 + n ∧ gf + 1 + n < s.2)) (fun g => sp.length - g.1) (0, false, false) ⟨by simp, by simp, by simp⟩ ?_ (fun g hg => ?_)
    · simp (disch := omega) only [SX0, SX1, SX2, SX3, SX4, SX5, SX6, SX7, SX8, SU0, SY0, Nat.reduceAdd, Nat.reduceMul, Nat.reduceSub, Nat.reduceLeDiff, Nat.reduceEqDiff, Nat.reduceLT, Nat.reduceBEq, ↓reduceIte, Int.reduceLE, Int.reduceLT, Int.reduceToNat, Int.reduceNeg, reduceCtorEq, Int.reduceEq, SF0, SF1, SF2, DWb0, DWa0, DLa0, DCg0, DCe0, DCe1, DCe2, DDb0, DBc0, DBc1, DKa0, DHb0, DHb1, DHa0, DDe0, DZc0]
      (refine wk_le ?_ ?_ ?_; (focus (simp [W8, leTm, leAV, AV.under, underL, spRow_under]; done)); (focus (simp [leL, OB.under, underL, AV.under, spRow_under]; done)); (focus (simp; done)))
    obtain ⟨i, tb, cb⟩ := g
    simp only at hg
    obtain ⟨j1, j2, j3⟩ := hg
    generalize hat : gf + 1 + (n : Int) = at_ at *
    refine sx_sound (bl := []) T_tt _ _ _ ?_
    simp (disch := omega) only [SX0, SX1, SX2, SX3, SX4, SX5, SX6, SX7, SX8, SU0, SY0, Nat.reduceAdd, Nat.reduceMul, Nat.reduceSub, Nat.reduceLeDiff, Nat.reduceEqDiff, Nat.reduceLT, Nat.reduceBEq, ↓reduceIte, Int.reduceLE, Int.reduceLT, Int.reduceToNat, Int.reduceNeg, reduceCtorEq, Int.reduceEq, SF0, SF1, SF2, DWb0, DWa0, DLa0, DCg0, DCe0, DCe1, DCe2, DDb0, DBc0, DBc1, DKa0, DHb0, DHb1, DHa0, DDe0, DZc0]
    refine br_dec (fun h2 => ?_) (fun h2 => ?_)
    · obtain ⟨s, hs⟩ := get_lt (l := sp) (i := i) (by omega)
      have ht9 : ∀ x, x ∈ sp.take (i + 1) ↔ x ∈ sp.take i ∨ x = s := fun x => by rw [List.take_add_one, hs]; simp
      simp (disch := omega) only [SX0, SX1, SX2, SX3, SX4, SX5, SX6, SX7, SX8, SU0, SY0, Nat.reduceAdd, Nat.reduceMul, Nat.reduceSub, Nat.reduceLeDiff, Nat.reduceEqDiff, Nat.reduceLT, Nat.reduceBEq, ↓reduceIte, Int.reduceLE, Int.reduceLT, Int.reduceToNat, Int.reduceNeg, reduceCtorEq, Int.reduceEq, SF0, SF1, SF2, DWb0, DWa0, DLa0, DCg0, DCe0, DCe1, DCe2, DDb0, DBc0, DBc1, DKa0, DHb0, DHb1, DHa0, DDe0, DZc0, hs]
      repeat' first | with_reducible refine fin_val ⟨?_, rfl⟩ | with_reducible refine br_dec (fun hb => ?_) (fun hb => ?_) | with_reducible refine br_ndec (fun hb => ?_) (fun hb => ?_) | with_reducible refine br_bool (fun hb => ?_) (fun hb => ?_) | with_reducible refine pk_dec (fun hb => ?_) (fun hb => ?_) | with_reducible refine pk_ndec (fun hb => ?_) (fun hb => ?_) | with_reducible refine awp_drawA T_tt mixed (by decide +kernel) (by kernel_rfl) (by kernel_rfl) ?_ | simp (disch := omega) only [SX0, SX1, SX2, SX3, SX4, SX5, SX6, SX7, SX8, SU0, SY0, Nat.reduceAdd, Nat.reduceMul, Nat.reduceSub, Nat.reduceLeDiff, Nat.reduceEqDiff, Nat.reduceLT, Nat.reduceBEq, ↓reduceIte, Int.reduceLE, Int.reduceLT, Int.reduceToNat, Int.reduceNeg, reduceCtorEq, Int.reduceEq, SF0, SF1, SF2, DWb0, DWa0, DLa0, DCg0, DCe0, DCe1, DCe2, DDb0, DBc0, DBc1, DKa0, DHb0, DHb1, DHa0, DDe0, DZc0, hs]
      all_goals first
        | (focus (exfalso; omega))
        | (focus
           refine ⟨(i + 1, tb, cb), ⟨by simp only []; omega, ?_, ?_⟩, by simp only []; omega, ?_⟩
           · first
               | exact iff_of_true rfl ((ex_next ht9).2 (.inr (by omega)))
               | exact ⟨fun h => (ex_next ht9).2 (.inl (j2.1 h)), fun h => j2.2 (((ex_next ht9).1 h).resolve_right (by omega))⟩
           · first
               | exact iff_of_true rfl ((ex_next ht9).2 (.inr (by omega)))
               | exact ⟨fun h => (ex_next ht9).2 (.inl (j3.1 h)), fun h => j3.2 (((ex_next ht9).1 h).resolve_right (by omega))⟩
           (refine wk_le ?_ ?_ ?_; (focus (simp [W8, leTm, leAV, AV.under, underL, spRow_under]; done)); (focus (simp [leL, OB.under, underL, AV.under, spRow_under]; done)); (focus (simp; done)))
           done)
        | (focus
           refine ⟨(i + 1, true, cb), ⟨by simp only []; omega, ?_, ?_⟩, by simp only []; omega, ?_⟩
           · first
               | exact iff_of_true rfl ((ex_next ht9).2 (.inr (by omega)))
               | exact ⟨fun h => (ex_next ht9).2 (.inl (j2.1 h)), fun h => j2.2 (((ex_next ht9).1 h).resolve_right (by omega))⟩
           · first
               | exact iff_of_true rfl ((ex_next ht9).2 (.inr (by omega)))
               | exact ⟨fun h => (ex_next ht9).2 (.inl (j3.1 h)), fun h => j3.2 (((ex_next ht9).1 h).resolve_right (by omega))⟩
           (refine wk_le ?_ ?_ ?_; (focus (simp [W8, leTm, leAV, AV.under, underL, spRow_under]; done)); (focus (simp [leL, OB.under, underL, AV.under, spRow_under]; done)); (focus (simp; done)))
           done)
        | (focus
           refine ⟨(i + 1, tb, true), ⟨by simp only []; omega, ?_, ?_⟩, by simp only []; omega, ?_⟩
           · first
               | exact iff_of_true rfl ((ex_next ht9).2 (.inr (by omega)))
               | exact ⟨fun h => (ex_next ht9).2 (.inl (j2.1 h)), fun h => j2.2 (((ex_next ht9).1 h).resolve_right (by omega))⟩
           · first
               | exact iff_of_true rfl ((ex_next ht9).2 (.inr (by omega)))
               | exact ⟨fun h => (ex_next ht9).2 (.inl (j3.1 h)), fun h => j3.2 (((ex_next ht9).1 h).resolve_right (by omega))⟩
           (refine wk_le ?_ ?_ ?_; (focus (simp [W8, leTm, leAV, AV.under, underL, spRow_under]; done)); (focus (simp [leL, OB.under, underL, AV.under, spRow_under]; done)); (focus (simp; done)))
           done)
        | (focus
           refine ⟨(i + 1, true, true), ⟨by simp only []; omega, ?_, ?_⟩, by simp only []; omega, ?_⟩
           · first
               | exact iff_of_true rfl ((ex_next ht9).2 (.inr (by omega)))
               | exact ⟨fun h => (ex_next ht9).2 (.inl (j2.1 h)), fun h => j2.2 (((ex_next ht9).1 h).resolve_right (by omega))⟩
           · first
               | exact iff_of_true rfl ((ex_next ht9).2 (.inr (by omega)))
               | exact ⟨fun h => (ex_next ht9).2 (.inl (j3.1 h)), fun h => j3.2 (((ex_next ht9).1 h).resolve_right (by omega))⟩
           (refine wk_le ?_ ?_ ?_; (focus (simp [W8, leTm, leAV, AV.under, underL, spRow_under]; done)); (focus (simp [leL, OB.under, underL, AV.under, spRow_under]; done)); (focus (simp; done)))
           done)
        | trace_state
    · have hi : i = sp.length := by omega
      rw [hi, List.take_length] at j2 j3
      have hg1 : LC sp gf gt at_ ↔ tb = true ∧ cb = false := by
        refine ⟨fun h => ⟨j2.2 h.2.2.1, ?_⟩, fun h => ⟨by omega, by omega, j2.1 h.1, fun s hs hc => ?_⟩⟩
        · cases cb
          · rfl
          · obtain ⟨s, hs, hc⟩ := j3.1 rfl
            exact absurd hc (h.2.2.2 s hs)
        · have := j3.2 ⟨s, hs, hc⟩
          rw [h.2] at this; cases this
      have hnx : ¬ LC sp gf gt at_ → ∀ c, c < at_ + 1 → ¬ LC sp gf gt c := fun h c hc => by
        by_cases e : c = at_
        · rw [e]; exact h
        · exact hn2 c (by omega)
      have e : at_ + 1 = gf + 1 + ((n : Int) + 1) := by omega
      rw [e] at hnx
      clear j2 j3
      cases tb <;> cases cb
      case true.false =>
        simp (disch := omega) only [SX0, SX1, SX2, SX3, SX4, SX5, SX6, SX7, SX8, SU0, SY0, Nat.reduceAdd, Nat.reduceMul, Nat.reduceSub, Nat.reduceLeDiff, Nat.reduceEqDiff, Nat.reduceLT, Nat.reduceBEq, ↓reduceIte, Int.reduceLE, Int.reduceLT, Int.reduceToNat, Int.reduceNeg, reduceCtorEq, Int.reduceEq, SF0, SF1, SF2, DWb0, DWa0, DLa0, DCg0, DCe0, DCe1, DCe2, DDb0, DBc0, DBc1, DKa0, DHb0, DHb1, DHa0, DDe0, DZc0]
        exact fin_free rfl ⟨⟨at_, true, rfl, fun _ => ⟨hg1.2 ⟨rfl, rfl⟩, hn2⟩, by simp⟩, rfl⟩
      all_goals
        simp (disch := omega) only [SX0, SX1, SX2, SX3, SX4, SX5, SX6, SX7, SX8, SU0, SY0, Nat.reduceAdd, Nat.reduceMul, Nat.reduceSub, Nat.reduceLeDiff, Nat.reduceEqDiff, Nat.reduceLT, Nat.reduceBEq, ↓reduceIte, Int.reduceLE, Int.reduceLT, Int.reduceToNat, Int.reduceNeg, reduceCtorEq, Int.reduceEq, SF0, SF1, SF2, DWb0, DWa0, DLa0, DCg0, DCe0, DCe1, DCe2, DDb0, DBc0, DBc1, DKa0, DHb0, DHb1, DHa0, DDe0, DZc0]
        refine ⟨n + 1, ⟨by omega, hnx (fun h => by have := hg1.1 h; simp at this)⟩, by omega, ?_⟩
        (refine wk_le ?_ ?_ ?_; (focus (simp [W8, leTm, leAV, AV.under, underL, spRow_under, e]; done)); (focus (simp [leL, OB.under, underL, AV.under, spRow_under, e]; done)); (focus (simp; done)))
  · simp (disch := omega) only [SX0, SX1, SX2, SX3, SX4, SX5, SX6, SX7, SX8, SU0, SY0, Nat.reduceAdd, Nat.reduceMul, Nat.reduceSub, Nat.reduceLeDiff, Nat.reduceEqDiff, Nat.reduceLT, Nat.reduceBEq, ↓reduceIte, Int.reduceLE, Int.reduceLT, Int.reduceToNat, Int.reduceNeg, reduceCtorEq, Int.reduceEq, SF0, SF1, SF2, DWb0, DWa0, DLa0, DCg0, DCe0, DCe1, DCe2, DDb0, DBc0, DBc1, DKa0, DHb0, DHb1, DHa0, DDe0, DZc0]
    exact fin_free rfl ⟨⟨0, false, rfl, by simp, fun _ c hc => by
      have h3 := hc.lt
      exact hn2 c (by omega) hc⟩, rfl⟩


/-- What a box takes of a side. -/
def spanP (b : Box) (down : Bool) : Int × Int := if down then (b.X, b.X + b.W) else (b.Y, b.Y + b.H)

theorem e_spanOfI : Enters Try.prog 65 := enters_of Try.func65 (by kernel_rfl) (by kernel_rfl)
theorem spanOfI_c (b : Box) (down : Bool) (hb : b.near) : ACalls Try.prog 65 [.agg b.cs, .val (.bool down)] [] [] (fun r L => r = .agg (spRow (spanP b down)) ∧ L = []) := by
  obtain ⟨h1, h2, h3, h4⟩ := hb
  refine acalls_tm T_tt Try.func65 rfl e_spanOfI 20 rfl (W8 _ _ .any .any .any .any .any .any (W8 .any .any .any .any .any .any .any .any [.any, .any, .any, .any, .any, .any])) rfl (rv := [.cell 4 94]) rfl (sx_sound (bl := []) T_tt _ _ _ ?_)
  cases down
  all_goals
    simp (disch := omega) only [SX0, SX1, SX2, SX3, SX4, SX5, SX6, SX7, SX8, SU0, SY0, Nat.reduceAdd, Nat.reduceMul, Nat.reduceSub, Nat.reduceLeDiff, Nat.reduceEqDiff, Nat.reduceLT, Nat.reduceBEq, ↓reduceIte, Int.reduceLE, Int.reduceLT, Int.reduceToNat, Int.reduceNeg, reduceCtorEq, Int.reduceEq, SF0, SF1, SF2, DWb0, DWa0, DLa0, DCg0, DCe0, DCe1, DCe2, DDb0, DBc0, DBc1, DKa0, DHb0, DHb1, DHa0, DDe0, DZc0]
    exact fin_free rfl ⟨by simp [spRow, spanP], rfl⟩

theorem LC_cut {l : List Place} {b : Box} {op a : Int} (ho : op = 2 ∨ op = 3) : LC (l.map fun q => spanP q.box (decide (op = 2))) (spanP b (decide (op = 2))).1 (spanP b (decide (op = 2))).2 a ↔ IsCut l b op a := by
  have e1 : ∀ c : Box, (spanP c (decide (op = 2))).1 = c.fr op := fun c => by unfold spanP Box.fr; rcases ho with rfl | rfl <;> rfl
  have e2 : ∀ c : Box, (spanP c (decide (op = 2))).2 = c.to_ op := fun c => by unfold spanP Box.to_; rcases ho with rfl | rfl <;> rfl
  have e3 : ∀ q : Place, q.lowE op = q.box.fr op := fun q => rfl
  have e4 : ∀ q : Place, q.highE op = q.box.to_ op := fun q => rfl
  unfold LC IsCut crossE
  rw [e1, e2]
  refine and_congr Iff.rfl (and_congr Iff.rfl (and_congr ⟨fun ⟨s, hs, h⟩ => ?_, fun ⟨q, hq, h⟩ => ?_⟩ ⟨fun h q hq => ?_, fun h s hs => ?_⟩))
  · obtain ⟨q, hq, rfl⟩ := List.mem_map.1 hs
    rw [e1, e2] at h
    exact ⟨q, hq, h⟩
  · refine ⟨_, List.mem_map.2 ⟨q, hq, rfl⟩, ?_⟩
    rw [e1, e2]; exact h
  · have := h _ (List.mem_map.2 ⟨q, hq, rfl⟩)
    rw [e1, e2] at this
    exact this
  · obtain ⟨q, hq, rfl⟩ := List.mem_map.1 hs
    rw [e1, e2]; exact h q hq

end Go.Pc
