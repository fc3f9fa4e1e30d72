/- Plans that are found from places: the program's first cut. -/
import Derived.Test.YtokghjmmdnhbeaaZc
import Derived.Test.YtokghjmmdnhbeaaAlf
set_option linter.unusedSimpArgs false
set_option linter.unusedVariables false
namespace Go.Pc
open Go Go.Proofs

def spansL (l : List Place) (op : Int) : List (Int × Int) := l.map fun q => spanP q.box (decide (op = 2))

theorem e_firstCutI : Enters Try.prog 61 := enters_of Try.func61 (by kernel_rfl) (by kernel_rfl)
set_option maxRecDepth 8000 in
set_option maxHeartbeats 4000000 in
theorem firstCutI_c (l : List Place) (b : Box) (hl : l.length ≤ 1000000) (hn : ∀ q ∈ l, q.box.near) (hb : b.near) : ACalls Try.prog 61 [.sl (l.map Place.cs), .agg b.cs] [] [] (fun r L => (∃ (op a : Int) (ok : Bool), r = .tup [.agg (Plan.mk op a 0 false []).cs, .val (.bool ok)] ∧ (ok = true → FirstCut l b op (a + b.fr op)) ∧ (ok = false → ∀ c, ¬ IsCut l b 2 c ∧ ¬ IsCut l b 3 c)) ∧ L = []) := by
  refine acalls_tm T_tt Try.func61 rfl e_firstCutI 52 rfl (W8 _ _ .any .any .any .any .any .any (W8 .any .any .any .any .any .any .any .any (W8 .any .any .any .any .any .any .any .any (W8 .any .any .any .any .any .any .any .any (W8 .any .any .any .any .any .any .any .any (W8 .any .any .any .any .any .any .any .any [.any, .any, .any, .any, .any, .any])))))) rfl (rv := [.cell 4 28, .tmp 5]) rfl (sx_sound (bl := []) T_tt _ _ _ ?_)
  simp (disch := omega) only [SX0, SX1, SX2, SX3, SX4, SX5, SX6, SX7, SX8, SU0, SY0, Nat.reduceAdd, Nat.reduceMul, Nat.reduceSub, Nat.reduceLeDiff, Nat.reduceEqDiff, Nat.reduceLT, Nat.reduceBEq, ↓reduceIte, Int.reduceLE, Int.reduceLT, Int.reduceToNat, Int.reduceNeg, reduceCtorEq, Int.reduceEq, SF0, SF1, SF2, DZc0, DWb0, DWa0, DLa0, DCg0, DCe0, DCe1, DCe2, DDb0, DBc0, DBc1, DKa0, DHb0, DHb1, DHa0, DDe0]
  with_reducible refine awp_loop_h (G := Nat) 6 48 (fun j => [(14, .sl [[.val (.int .i64 2)], [.val (.int .i64 3)]]), (15, .val (.int .i64 2)), (16, .val (.int .i64 j))]) (fun _ => [.cells b.cs, .cells [.val (.int .i64 0), .val (.int .i64 0), .val (.int .i64 0), .val (.bool false), .val (.slice none 0 0)]]) (fun j => j ≤ 2 ∧ ∀ o : Int, (o = 2 ∨ o = 3) → o < 2 + j → ∀ a, ¬ IsCut l b o a) (fun j => 2 - j) 0 ⟨by omega, fun o h1 h2 => by omega⟩ ?_ (fun j hj => ?_)
  · simp (disch := omega) only [SX0, SX1, SX2, SX3, SX4, SX5, SX6, SX7, SX8, SU0, SY0, Nat.reduceAdd, Nat.reduceMul, Nat.reduceSub, Nat.reduceLeDiff, Nat.reduceEqDiff, Nat.reduceLT, Nat.reduceBEq, ↓reduceIte, Int.reduceLE, Int.reduceLT, Int.reduceToNat, Int.reduceNeg, reduceCtorEq, Int.reduceEq, SF0, SF1, SF2, DZc0, DWb0, DWa0, DLa0, DCg0, DCe0, DCe1, DCe2, DDb0, DBc0, DBc1, DKa0, DHb0, DHb1, DHa0, DDe0]
    (refine wk_le ?_ ?_ ?_; (focus (simp [W8, leTm, leAV, AV.under, underL, Box.under]; done)); (focus (simp [leL, OB.under, underL, AV.under, Box.under]; done)); (focus (simp; done)))
  obtain ⟨hj1, hj2⟩ := hj
  refine sx_sound (bl := []) T_tt _ _ _ ?_
  simp (disch := omega) only [SX0, SX1, SX2, SX3, SX4, SX5, SX6, SX7, SX8, SU0, SY0, Nat.reduceAdd, Nat.reduceMul, Nat.reduceSub, Nat.reduceLeDiff, Nat.reduceEqDiff, Nat.reduceLT, Nat.reduceBEq, ↓reduceIte, Int.reduceLE, Int.reduceLT, Int.reduceToNat, Int.reduceNeg, reduceCtorEq, Int.reduceEq, SF0, SF1, SF2, DZc0, DWb0, DWa0, DLa0, DCg0, DCe0, DCe1, DCe2, DDb0, DBc0, DBc1, DKa0, DHb0, DHb1, DHa0, DDe0]
  refine br_dec (fun h1 => ?_) (fun h1 => ?_)
  · have hjg : ([[AV.val (.int .i64 2)], [AV.val (.int .i64 3)]] : List (List AV))[j]? = some [.val (.int .i64 (2 + (j : Int)))] := by
      have : j = 0 ∨ j = 1 := by omega
      rcases this with rfl | rfl <;> rfl
    simp (disch := omega) only [SX0, SX1, SX2, SX3, SX4, SX5, SX6, SX7, SX8, SU0, SY0, Nat.reduceAdd, Nat.reduceMul, Nat.reduceSub, Nat.reduceLeDiff, Nat.reduceEqDiff, Nat.reduceLT, Nat.reduceBEq, ↓reduceIte, Int.reduceLE, Int.reduceLT, Int.reduceToNat, Int.reduceNeg, reduceCtorEq, Int.reduceEq, SF0, SF1, SF2, DZc0, DWb0, DWa0, DLa0, DCg0, DCe0, DCe1, DCe2, DDb0, DBc0, DBc1, DKa0, DHb0, DHb1, DHa0, DDe0, hjg]
    refine awp_wk (wk_nil 8 2 (by decide) rfl) ?_
    simp (disch := omega) only [SX0, SX1, SX2, SX3, SX4, SX5, SX6, SX7, SX8, SU0, SY0, Nat.reduceAdd, Nat.reduceMul, Nat.reduceSub, Nat.reduceLeDiff, Nat.reduceEqDiff, Nat.reduceLT, Nat.reduceBEq, ↓reduceIte, Int.reduceLE, Int.reduceLT, Int.reduceToNat, Int.reduceNeg, reduceCtorEq, Int.reduceEq, SF0, SF1, SF2, DZc0, DWb0, DWa0, DLa0, DCg0, DCe0, DCe1, DCe2, DDb0, DBc0, DBc1, DKa0, DHb0, DHb1, DHa0, DDe0]
    with_reducible refine awp_loop_h (G := Nat) 9 45 (fun i => [(8, .os 2 2 0 i), (14, .sl [[.val (.int .i64 2)], [.val (.int .i64 3)]]), (15, .val (.int .i64 2)), (16, .val (.int .i64 j)), (20, .sl (l.map Place.cs)), (21, .val (.int .i64 l.length)), (22, .val (.int .i64 i))]) (fun i => [.cells b.cs, .cells [.val (.int .i64 0), .val (.int .i64 0), .val (.int .i64 0), .val (.bool false), .val (.slice none 0 0)], .vec 2 ((spansL (l.take i) (2 + (j : Int))).map spRow)]) (fun i => i ≤ l.length) (fun i => l.length - i) 0 (Nat.zero_le _) ?_ (fun i hi => ?_)
    · simp (disch := omega) only [SX0, SX1, SX2, SX3, SX4, SX5, SX6, SX7, SX8, SU0, SY0, Nat.reduceAdd, Nat.reduceMul, Nat.reduceSub, Nat.reduceLeDiff, Nat.reduceEqDiff, Nat.reduceLT, Nat.reduceBEq, ↓reduceIte, Int.reduceLE, Int.reduceLT, Int.reduceToNat, Int.reduceNeg, reduceCtorEq, Int.reduceEq, SF0, SF1, SF2, DZc0, DWb0, DWa0, DLa0, DCg0, DCe0, DCe1, DCe2, DDb0, DBc0, DBc1, DKa0, DHb0, DHb1, DHa0, DDe0]
      (refine wk_le ?_ ?_ ?_; (focus (simp [W8, leTm, leAV, AV.under, underL, Box.under, spansL]; done)); (focus (simp [leL, OB.under, underL, AV.under, Box.under, spansL]; done)); (focus (simp; done)))
    refine sx_sound (bl := []) T_tt _ _ _ ?_
    have hsl : ((spansL (l.take i) (2 + (j : Int))).map spRow).length = i := by simp [spansL]; omega
    simp (disch := omega) only [SX0, SX1, SX2, SX3, SX4, SX5, SX6, SX7, SX8, SU0, SY0, Nat.reduceAdd, Nat.reduceMul, Nat.reduceSub, Nat.reduceLeDiff, Nat.reduceEqDiff, Nat.reduceLT, Nat.reduceBEq, ↓reduceIte, Int.reduceLE, Int.reduceLT, Int.reduceToNat, Int.reduceNeg, reduceCtorEq, Int.reduceEq, SF0, SF1, SF2, DZc0, DWb0, DWa0, DLa0, DCg0, DCe0, DCe1, DCe2, DDb0, DBc0, DBc1, DKa0, DHb0, DHb1, DHa0, DDe0]
    refine br_dec (fun h2 => ?_) (fun h2 => ?_)
    · obtain ⟨q, hq⟩ := get_lt (l := l) (i := i) (by omega)
      have e : (spansL (l.take (i + 1)) (2 + (j : Int))).map spRow = (spansL (l.take i) (2 + (j : Int))).map spRow ++ [spRow (spanP q.box (decide (2 + (j : Int) = 2)))] := by
        unfold spansL; rw [List.take_add_one, hq]; simp
      generalize (spansL (l.take i) (2 + (j : Int))).map spRow = rows at *
      simp (disch := omega) only [SX0, SX1, SX2, SX3, SX4, SX5, SX6, SX7, SX8, SU0, SY0, Nat.reduceAdd, Nat.reduceMul, Nat.reduceSub, Nat.reduceLeDiff, Nat.reduceEqDiff, Nat.reduceLT, Nat.reduceBEq, ↓reduceIte, Int.reduceLE, Int.reduceLT, Int.reduceToNat, Int.reduceNeg, reduceCtorEq, Int.reduceEq, SF0, SF1, SF2, DZc0, DWb0, DWa0, DLa0, DCg0, DCe0, DCe1, DCe2, DDb0, DBc0, DBc1, DKa0, DHb0, DHb1, DHa0, DDe0, hq, Place.drop_box, Place.drop_pb]
      refine acall_one (spanOfI_c q.box (decide (2 + (j : Int) = 2)) (hn q (List.mem_of_getElem? hq))) (by simp [freeL, AV.free, Box.free]) rfl ?_
      simp (disch := omega) only [SX0, SX1, SX2, SX3, SX4, SX5, SX6, SX7, SX8, SU0, SY0, Nat.reduceAdd, Nat.reduceMul, Nat.reduceSub, Nat.reduceLeDiff, Nat.reduceEqDiff, Nat.reduceLT, Nat.reduceBEq, ↓reduceIte, Int.reduceLE, Int.reduceLT, Int.reduceToNat, Int.reduceNeg, reduceCtorEq, Int.reduceEq, SF0, SF1, SF2, DZc0, DWb0, DWa0, DLa0, DCg0, DCe0, DCe1, DCe2, DDb0, DBc0, DBc1, DKa0, DHb0, DHb1, DHa0, DDe0, hsl]
      refine req (by omega) ?_
      simp (disch := omega) only [SX0, SX1, SX2, SX3, SX4, SX5, SX6, SX7, SX8, SU0, SY0, Nat.reduceAdd, Nat.reduceMul, Nat.reduceSub, Nat.reduceLeDiff, Nat.reduceEqDiff, Nat.reduceLT, Nat.reduceBEq, ↓reduceIte, Int.reduceLE, Int.reduceLT, Int.reduceToNat, Int.reduceNeg, reduceCtorEq, Int.reduceEq, SF0, SF1, SF2, DZc0, DWb0, DWa0, DLa0, DCg0, DCe0, DCe1, DCe2, DDb0, DBc0, DBc1, DKa0, DHb0, DHb1, DHa0, DDe0, hsl]
      refine ⟨i + 1, by omega, by omega, ?_⟩
      (refine wk_le ?_ ?_ ?_; (focus (simp [W8, leTm, leAV, AV.under, underL, Box.under, e, spRow]; done)); (focus (simp [leL, OB.under, underL, AV.under, Box.under, e, spRow]; done)); (focus (simp; done)))
    · have hi2 : i = l.length := by omega
      subst hi2
      rw [List.take_length] at hsl ⊢
      have C := leastCutI_c (spansL l (2 + (j : Int))) (spanP b (decide (2 + (j : Int) = 2))).1 (spanP b (decide (2 + (j : Int) = 2))).2 (by simp [spansL]; omega) (by unfold Box.near at hb; unfold spanP; split <;> (simp only; omega)) (by unfold Box.near at hb; unfold spanP; split <;> (simp only; omega))
      simp (disch := omega) only [SX0, SX1, SX2, SX3, SX4, SX5, SX6, SX7, SX8, SU0, SY0, Nat.reduceAdd, Nat.reduceMul, Nat.reduceSub, Nat.reduceLeDiff, Nat.reduceEqDiff, Nat.reduceLT, Nat.reduceBEq, ↓reduceIte, Int.reduceLE, Int.reduceLT, Int.reduceToNat, Int.reduceNeg, reduceCtorEq, Int.reduceEq, SF0, SF1, SF2, DZc0, DWb0, DWa0, DLa0, DCg0, DCe0, DCe1, DCe2, DDb0, DBc0, DBc1, DKa0, DHb0, DHb1, DHa0, DDe0]
      refine acall_one (spanOfI_c b (decide (2 + (j : Int) = 2)) hb) (by simp [freeL, AV.free, Box.free]) rfl ?_
      simp (disch := omega) only [SX0, SX1, SX2, SX3, SX4, SX5, SX6, SX7, SX8, SU0, SY0, Nat.reduceAdd, Nat.reduceMul, Nat.reduceSub, Nat.reduceLeDiff, Nat.reduceEqDiff, Nat.reduceLT, Nat.reduceBEq, ↓reduceIte, Int.reduceLE, Int.reduceLT, Int.reduceToNat, Int.reduceNeg, reduceCtorEq, Int.reduceEq, SF0, SF1, SF2, DZc0, DWb0, DWa0, DLa0, DCg0, DCe0, DCe1, DCe2, DDb0, DBc0, DBc1, DKa0, DHb0, DHb1, DHa0, DDe0]
      refine acall_bor C (by exact ⟨.row 2 2 l.length _ rfl (by simp [spansL]), .free _ rfl, trivial⟩) (fun r L h => ?_) ?_
      · obtain ⟨⟨a, ok, rfl, _⟩, rfl⟩ := h
        exact ⟨rfl, rfl⟩
      rintro _ _ ⟨⟨a, ok, rfl, hok1, hok2⟩, rfl⟩
      have hop : (2 + (j : Int)) = 2 ∨ (2 + (j : Int)) = 3 := by omega
      have hlc : ∀ c, LC (spansL l (2 + (j : Int))) (spanP b (decide (2 + (j : Int) = 2))).1 (spanP b (decide (2 + (j : Int) = 2))).2 c ↔ IsCut l b (2 + (j : Int)) c := fun c => LC_cut hop
      have hfr : (spanP b (decide (2 + (j : Int) = 2))).1 = b.fr (2 + (j : Int)) := by
        unfold spanP Box.fr
        rcases hop with h | h <;> rw [h] <;> rfl
      simp only [hlc] at hok1 hok2
      simp (disch := omega) only [SX0, SX1, SX2, SX3, SX4, SX5, SX6, SX7, SX8, SU0, SY0, Nat.reduceAdd, Nat.reduceMul, Nat.reduceSub, Nat.reduceLeDiff, Nat.reduceEqDiff, Nat.reduceLT, Nat.reduceBEq, ↓reduceIte, Int.reduceLE, Int.reduceLT, Int.reduceToNat, Int.reduceNeg, reduceCtorEq, Int.reduceEq, SF0, SF1, SF2, DZc0, DWb0, DWa0, DLa0, DCg0, DCe0, DCe1, DCe2, DDb0, DBc0, DBc1, DKa0, DHb0, DHb1, DHa0, DDe0, SX0]
      refine br_bool (fun h3 => ?_) (fun h3 => ?_)
      · obtain ⟨k1, k2⟩ := hok1 h3
        have hr := k1.1
        have hr2 := k1.2.1
        rw [← hfr] at hr
        have hne : -1000 ≤ (spanP b (decide (2 + (j : Int) = 2))).1 ∧ (spanP b (decide (2 + (j : Int) = 2))).1 ≤ 1000 := by
          unfold Box.near at hb; unfold spanP; split <;> (simp only; omega)
        have hr3 : b.to_ (2 + (j : Int)) ≤ 2000 := by unfold Box.near at hb; unfold Box.to_; split <;> omega
        simp (disch := omega) only [SX0, SX1, SX2, SX3, SX4, SX5, SX6, SX7, SX8, SU0, SY0, Nat.reduceAdd, Nat.reduceMul, Nat.reduceSub, Nat.reduceLeDiff, Nat.reduceEqDiff, Nat.reduceLT, Nat.reduceBEq, ↓reduceIte, Int.reduceLE, Int.reduceLT, Int.reduceToNat, Int.reduceNeg, reduceCtorEq, Int.reduceEq, SF0, SF1, SF2, DZc0, DWb0, DWa0, DLa0, DCg0, DCe0, DCe1, DCe2, DDb0, DBc0, DBc1, DKa0, DHb0, DHb1, DHa0, DDe0]
        refine fin_nrm ?_
        simp only [AV.nrm, nrmL]
        refine fin_free rfl ⟨⟨2 + (j : Int), a - (spanP b (decide (2 + (j : Int) = 2))).1, true, by simp [Plan.cs_eq (Plan.mk _ _ _ _ _), Plan.op, Plan.at_, Plan.pa, Plan.tu, Plan.ks], fun _ => ?_, by simp⟩, rfl⟩
        rw [← hfr, Int.sub_add_cancel]
        refine ⟨k1, k2, ?_⟩
        rcases hop with h | h
        · exact .inl h
        · exact .inr ⟨h, hj2 2 (.inl rfl) (by omega)⟩
      · have k := hok2 h3
        simp (disch := omega) only [SX0, SX1, SX2, SX3, SX4, SX5, SX6, SX7, SX8, SU0, SY0, Nat.reduceAdd, Nat.reduceMul, Nat.reduceSub, Nat.reduceLeDiff, Nat.reduceEqDiff, Nat.reduceLT, Nat.reduceBEq, ↓reduceIte, Int.reduceLE, Int.reduceLT, Int.reduceToNat, Int.reduceNeg, reduceCtorEq, Int.reduceEq, SF0, SF1, SF2, DZc0, DWb0, DWa0, DLa0, DCg0, DCe0, DCe1, DCe2, DDb0, DBc0, DBc1, DKa0, DHb0, DHb1, DHa0, DDe0]
        refine ⟨j + 1, ⟨by omega, fun o h4 h5 => ?_⟩, by omega, ?_⟩
        · by_cases e : o = 2 + (j : Int)
          · rw [e]; exact k
          · exact hj2 o h4 (by omega)
        (refine wk_le ?_ ?_ ?_; (focus (simp [W8, leTm, leAV, AV.under, underL, Box.under]; done)); (focus (simp [leL, OB.under, underL, AV.under, Box.under]; done)); (focus (simp; done)))
  · have hall : ∀ c, ¬ IsCut l b 2 c ∧ ¬ IsCut l b 3 c := fun c => ⟨hj2 2 (.inl rfl) (by omega) c, hj2 3 (.inr rfl) (by omega) c⟩
    simp (disch := omega) only [SX0, SX1, SX2, SX3, SX4, SX5, SX6, SX7, SX8, SU0, SY0, Nat.reduceAdd, Nat.reduceMul, Nat.reduceSub, Nat.reduceLeDiff, Nat.reduceEqDiff, Nat.reduceLT, Nat.reduceBEq, ↓reduceIte, Int.reduceLE, Int.reduceLT, Int.reduceToNat, Int.reduceNeg, reduceCtorEq, Int.reduceEq, SF0, SF1, SF2, DZc0, DWb0, DWa0, DLa0, DCg0, DCe0, DCe1, DCe2, DDb0, DBc0, DBc1, DKa0, DHb0, DHb1, DHa0, DDe0]
    refine fin_nrm ?_
    simp only [AV.nrm, nrmL]
    exact fin_free rfl ⟨⟨0, 0, false, by simp [Plan.cs_eq (Plan.mk _ _ _ _ _), Plan.op, Plan.at_, Plan.pa, Plan.tu, Plan.ks], by simp, fun _ => hall⟩, rfl⟩

end Go.Pc
