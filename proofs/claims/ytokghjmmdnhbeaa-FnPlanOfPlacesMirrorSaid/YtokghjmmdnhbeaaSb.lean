/- The reference's steps: numbers of cuts, those above them, valid steps. -/
import Derived.Test.YtokghjmmdnhbeaaSa
import Derived.Test.YtokghjmmdnhbeaaHc
set_option linter.unusedSimpArgs false
set_option linter.unusedVariables false
namespace Go.Pc
open Go Go.Proofs

/-- Where a number is. -/
def placeI (l : List Int) (n : Int) : Int := ixOf (fun x => decide (x = n)) l
theorem placeI_neg {l : List Int} {n : Int} : placeI l n < 0 ↔ n ∉ l := by
  unfold placeI
  rcases ixOf_find (g := fun x => decide (x = n)) (l := l) with ⟨h1, h2⟩ | ⟨i, x, h1, h2, h3⟩
  · rw [h1]
    rw [List.find?_eq_none] at h2
    exact ⟨fun _ hm => h2 n hm (by simp), fun _ => by omega⟩
  · rw [h1]
    have := List.find?_some h3
    simp only [decide_eq_true_eq] at this
    subst this
    exact ⟨fun h => by omega, fun h => absurd (List.mem_of_getElem? h2) h⟩

theorem e_placeIn : Enters Try.prog 63 := enters_of Try.func63 (by kernel_rfl) (by kernel_rfl)
theorem placeIn_c (l : List Int) (n : Int) (hl : l.length < 2 ^ 40) : ACalls Try.prog 63 [.sl (ints l), .val (.int .i64 n)] [] [] (fun r L => r = .val (.int .i64 (placeI l n)) ∧ L = []) := by
  refine acalls_tm T_tt Try.func63 rfl e_placeIn 17 rfl (W8 _ _ .any .any .any .any .any .any (W8 .any .any .any .any .any .any .any .any [.any, .any, .any])) rfl (rv := [.tmp 4]) rfl (sx_sound (bl := []) T_tt _ _ _ ?_)
  simp (disch := omega) only [SX0, SX1, SX2, SX3, SX4, SX5, SX6, SX7, SX8, SU0, SY0, Nat.reduceAdd, Nat.reduceMul, Nat.reduceSub, Nat.reduceLeDiff, Nat.reduceEqDiff, Nat.reduceLT, Nat.reduceBEq, ↓reduceIte, Int.reduceLE, Int.reduceLT, Int.reduceToNat, Int.reduceNeg, reduceCtorEq, Int.reduceEq, SF0, SF1, SF2, DCg0, DCe0, DCe1, DCe2, DDb0, DBc0, DBc1, DHb0, DHb1, DHa0]
  with_reducible refine awp_loop_h 6 13 (fun (i : Nat) => [(5, .val (.int .i64 i))]) (fun _ => []) (fun i => i ≤ l.length ∧ ∀ x ∈ l.take i, decide (x = n) = false) (fun i => l.length - i) 0 ⟨Nat.zero_le _, by simp⟩ ?_ (fun i hi => sx_sound (bl := []) T_tt _ _ _ ?_)
  · simp (disch := omega) only [SX0, SX1, SX2, SX3, SX4, SX5, SX6, SX7, SX8, SU0, SY0, Nat.reduceAdd, Nat.reduceMul, Nat.reduceSub, Nat.reduceLeDiff, Nat.reduceEqDiff, Nat.reduceLT, Nat.reduceBEq, ↓reduceIte, Int.reduceLE, Int.reduceLT, Int.reduceToNat, Int.reduceNeg, reduceCtorEq, Int.reduceEq, SF0, SF1, SF2, DCg0, DCe0, DCe1, DCe2, DDb0, DBc0, DBc1, DHb0, DHb1, DHa0]
    (refine wk_le ?_ ?_ ?_; (focus (simp [W8, leTm, leAV, AV.under, underL]; done)); (focus (simp [leL, OB.under, underL, AV.under]; done)); (focus (simp; done)))
  simp (disch := omega) only [SX0, SX1, SX2, SX3, SX4, SX5, SX6, SX7, SX8, SU0, SY0, Nat.reduceAdd, Nat.reduceMul, Nat.reduceSub, Nat.reduceLeDiff, Nat.reduceEqDiff, Nat.reduceLT, Nat.reduceBEq, ↓reduceIte, Int.reduceLE, Int.reduceLT, Int.reduceToNat, Int.reduceNeg, reduceCtorEq, Int.reduceEq, SF0, SF1, SF2, DCg0, DCe0, DCe1, DCe2, DDb0, DBc0, DBc1, DHb0, DHb1, DHa0]
  refine br_dec (fun h1 => ?_) (fun h1 => ?_)
  · obtain ⟨x, hx⟩ := get_lt (l := l) (i := i) (by omega)
    simp (disch := omega) only [SX0, SX1, SX2, SX3, SX4, SX5, SX6, SX7, SX8, SU0, SY0, Nat.reduceAdd, Nat.reduceMul, Nat.reduceSub, Nat.reduceLeDiff, Nat.reduceEqDiff, Nat.reduceLT, Nat.reduceBEq, ↓reduceIte, Int.reduceLE, Int.reduceLT, Int.reduceToNat, Int.reduceNeg, reduceCtorEq, Int.reduceEq, SF0, SF1, SF2, DCg0, DCe0, DCe1, DCe2, DDb0, DBc0, DBc1, DHb0, DHb1, DHa0, hx]
    refine br_dec (fun h2 => ?_) (fun h2 => ?_)
    · simp (disch := omega) only [SX0, SX1, SX2, SX3, SX4, SX5, SX6, SX7, SX8, SU0, SY0, Nat.reduceAdd, Nat.reduceMul, Nat.reduceSub, Nat.reduceLeDiff, Nat.reduceEqDiff, Nat.reduceLT, Nat.reduceBEq, ↓reduceIte, Int.reduceLE, Int.reduceLT, Int.reduceToNat, Int.reduceNeg, reduceCtorEq, Int.reduceEq, SF0, SF1, SF2, DCg0, DCe0, DCe1, DCe2, DDb0, DBc0, DBc1, DHb0, DHb1, DHa0]
      exact fin_val ⟨by rw [placeI, ixOf_at hx hi.2 (by simp [h2])], rfl⟩
    · simp (disch := omega) only [SX0, SX1, SX2, SX3, SX4, SX5, SX6, SX7, SX8, SU0, SY0, Nat.reduceAdd, Nat.reduceMul, Nat.reduceSub, Nat.reduceLeDiff, Nat.reduceEqDiff, Nat.reduceLT, Nat.reduceBEq, ↓reduceIte, Int.reduceLE, Int.reduceLT, Int.reduceToNat, Int.reduceNeg, reduceCtorEq, Int.reduceEq, SF0, SF1, SF2, DCg0, DCe0, DCe1, DCe2, DDb0, DBc0, DBc1, DHb0, DHb1, DHa0]
      refine ⟨i + 1, ⟨by omega, take_next hx hi.2 (by simp [h2])⟩, by omega, ?_⟩
      (refine wk_le ?_ ?_ ?_; (focus (simp [W8, leTm, leAV, AV.under, underL]; done)); (focus (simp [leL, OB.under, underL, AV.under]; done)); (focus (simp; done)))
  · simp (disch := omega) only [SX0, SX1, SX2, SX3, SX4, SX5, SX6, SX7, SX8, SU0, SY0, Nat.reduceAdd, Nat.reduceMul, Nat.reduceSub, Nat.reduceLeDiff, Nat.reduceEqDiff, Nat.reduceLT, Nat.reduceBEq, ↓reduceIte, Int.reduceLE, Int.reduceLT, Int.reduceToNat, Int.reduceNeg, reduceCtorEq, Int.reduceEq, SF0, SF1, SF2, DCg0, DCe0, DCe1, DCe2, DDb0, DBc0, DBc1, DHb0, DHb1, DHa0]
    exact fin_val ⟨by rw [placeI, ixOf_none (take_all (by omega) hi.2)], rfl⟩

theorem intRows {u : List Int} : ∀ c ∈ u.map (fun x => [AV.val (.int .i64 x)]), c.length = 1 ∧ c.all AV.one = true ∧ c.all AV.pure = true := fun c hc => by
  obtain ⟨q, _, rfl⟩ := List.mem_map.1 hc
  exact ⟨rfl, rfl, rfl⟩

def fsts (ks : List (Int × Int)) : List Int := ks.map Prod.fst
def snds (ks : List (Int × Int)) : List Int := ks.map Prod.snd

theorem Plan.size_wf {p : Plan} (h : p.wf = true ∧ p.nodes ≤ 255) : p.size = p.nodes := by unfold Plan.size; rw [if_pos h]

/-- Where a cut is. -/
theorem placeI_fst {ks : List (Int × Int)} (hn : (ks.map Prod.fst).Nodup) {n : Int} (h : 0 ≤ placeI (fsts ks) n) : ∃ q, ks[(placeI (fsts ks) n).toNat]? = some q ∧ q.1 = n := by
  unfold placeI at *
  rcases ixOf_find (g := fun x => decide (x = n)) (l := fsts ks) with ⟨h1, h2⟩ | ⟨i, x, h1, h2, h3⟩
  · omega
  · have := List.find?_some h3
    simp only [decide_eq_true_eq] at this
    rw [h1]
    unfold fsts at h2
    rw [List.getElem?_map] at h2
    obtain ⟨q, hq, e⟩ := Option.map_eq_some_iff.1 h2
    exact ⟨q, by simpa using hq, by rw [e, this]⟩

theorem intHead {l : List Int} {j : Nat} : ∀ c, Option.map (fun x => [AV.val (.int .i64 x)]) l[j]? = some c → c.length = 1 := fun c hc => by
  obtain ⟨b, _, rfl⟩ := Option.map_eq_some_iff.1 hc
  rfl

theorem placeIn_t (S : List Int) (i : Nat) (n : Int) (h : S.length < 2 ^ 40) : ACalls Try.prog 63 [.sl ((S.map fun x => [AV.val (.int .i64 x)]).take i), .val (.int .i64 n)] [] [] (fun r L => r = .val (.int .i64 (placeI (S.take i) n)) ∧ L = []) := by
  have := placeIn_c (S.take i) n (by rw [List.length_take]; omega)
  rwa [ints, List.map_take] at this

end Go.Pc
