/- The law of the best value: it holds of all bytes. -/
import Derived.Test.YtncjnchmmagkkaaYc
set_option linter.unusedSimpArgs false
set_option linter.unusedVariables false
namespace Go.Pc
open Go Go.Proofs

theorem worth_le {k : Work} {vs : List Int} {f : Nat → Nat → Int} {W H : Nat} (hg : goodV k vs) (hB : tabB f) (hU : ∀ a b, 1 ≤ a → a ≤ W → 1 ≤ b → b ≤ H → tabUp k vs f a b) :
    ∀ (p : Plan), p.wf = true → ∀ b : Box, p.fits k b.W b.H = true → (1 ≤ b.W ∧ b.W ≤ W) → (1 ≤ b.H ∧ b.H ≤ H) → ((p.places b).map fun q => (vs[q.pa.toNat]?).getD 0).sum ≤ f b.W.toNat b.H.toNat :=
  Plan.wf_ind (fun p hw hc b hf h1 h2 => by
    have hfill := Plan.places_fill k p hw b hf
    have hpa := Plan.places_pa k p hw b hf
    unfold Plan.places at *
    rw [Plan.parts_leaf hc] at *
    by_cases ho : p.op = 1
    · have e : [(p, b)].filterMap placeOf = [⟨p.pa, p.tu, b⟩] := by simp [placeOf, ho]
      have hmem : (⟨p.pa, p.tu, b⟩ : Place) ∈ [(p, b)].filterMap placeOf := by rw [e]; exact List.mem_singleton.2 rfl
      have hf1 := hfill _ hmem
      have hp1 := hpa _ hmem
      simp only at hf1 hp1
      rw [e]
      obtain ⟨v, hv⟩ := get_lt (l := vs) (i := p.pa.toNat) (by have := hg.1; omega)
      have hu := (hU b.W.toNat b.H.toNat (by omega) (by omega) (by omega) (by omega)).1
      have := hu p.pa.toNat p.tu v hv (by
        rw [show ((p.pa.toNat : Nat) : Int) = p.pa by omega, show ((b.W.toNat : Nat) : Int) = b.W by omega, show ((b.H.toNat : Nat) : Int) = b.H by omega]
        exact hf1)
      simp only [List.map_cons, List.map_nil, List.sum_cons, List.sum_nil, hv, Option.getD_some]
      omega
    · have e : [(p, b)].filterMap placeOf = [] := by simp [placeOf, ho]
      rw [e]
      exact (hB _ _).1) (fun p x y hw hc hk hx hy ix iy b hf h1 h2 => by
    obtain ⟨f1, f2, c1, c2, c3⟩ := Plan.fits_cut hc hk hf
    have hn : placeOf (p, b) = none := by unfold placeOf; rw [if_neg]; simp only; unfold Plan.cut at hc; omega
    have e : p.places b = x.places (p.split b).1 ++ y.places (p.split b).2 := by
      unfold Plan.places
      rw [Plan.parts_cut hc hk, List.filterMap_cons, hn, List.filterMap_append]
    have jx := ix _ f1
    have jy := iy _ f2
    have hu := (hU b.W.toNat b.H.toNat (by omega) (by omega) (by omega) (by omega)).2
    rw [e, List.map_append, List.sum_append]
    by_cases ho : p.op = 2
    · have c2 := c2 ho
      have s1 : (p.split b).1 = ⟨b.X, b.Y, p.at_, b.H⟩ := by unfold Plan.split; rw [if_pos ho]
      have s2 : (p.split b).2 = ⟨b.X + p.at_, b.Y, b.W - p.at_, b.H⟩ := by unfold Plan.split; rw [if_pos ho]
      rw [s1] at jx ⊢
      rw [s2] at jy ⊢
      simp only at jx jy
      have jx := jx (by omega) h2
      have jy := jy (by omega) h2
      rw [show (b.W - p.at_).toNat = b.W.toNat - p.at_.toNat by omega] at jy
      by_cases hh : p.at_.toNat ≤ b.W.toNat / 2
      · have := hu.1 p.at_.toNat (by omega) hh
        omega
      · have := hu.1 (b.W.toNat - p.at_.toNat) (by omega) (by omega)
        rw [show b.W.toNat - (b.W.toNat - p.at_.toNat) = p.at_.toNat by omega] at this
        omega
    · have c3 := c3 ho
      have s1 : (p.split b).1 = ⟨b.X, b.Y, b.W, p.at_⟩ := by unfold Plan.split; rw [if_neg ho]
      have s2 : (p.split b).2 = ⟨b.X, b.Y + p.at_, b.W, b.H - p.at_⟩ := by unfold Plan.split; rw [if_neg ho]
      rw [s1] at jx ⊢
      rw [s2] at jy ⊢
      simp only at jx jy
      have jx := jx h1 (by omega)
      have jy := jy h1 (by omega)
      rw [show (b.H - p.at_).toNat = b.H.toNat - p.at_.toNat by omega] at jy
      by_cases hh : p.at_.toNat ≤ b.H.toNat / 2
      · have := hu.2 p.at_.toNat (by omega) hh
        omega
      · have := hu.2 (b.H.toNat - p.at_.toNat) (by omega) (by omega)
        rw [show b.H.toNat - (b.H.toNat - p.at_.toNat) = p.at_.toNat by omega] at this
        omega)

theorem e_fnPlanValueBest : Enters Try.prog 13 := enters_of Try.func13 (by kernel_rfl) (by kernel_rfl)
set_option maxRecDepth 8000 in
set_option maxHeartbeats 4000000 in
theorem fnPlanValueBest_c : LawC 13 := by
  intro xs hx hl
  refine acalls_tm T_tt Try.func13 rfl e_fnPlanValueBest 46 rfl (W8 _ .any .any .any .any .any .any .any (W8 .any .any .any .any .any .any .any .any (W8 .any .any .any .any .any .any .any .any (W8 .any .any .any .any .any .any .any .any (W8 .any .any .any .any .any .any .any .any [.any, .any, .any, .any, .any, .any, .any]))))) rfl (rv := [.tmp 2]) rfl (sx_sound (bl := []) T_tt _ _ _ ?_)
  simp (disch := omega) only [SX0, SX1, SX2, SX3, SX4, SX5, SX6, SX7, SX8, SU0, SY0, SY1, Nat.reduceAdd, Nat.reduceMul, Nat.reduceSub, Nat.reduceLeDiff, Nat.reduceEqDiff, Nat.reduceLT, Nat.reduceBEq, ↓reduceIte, Int.reduceLE, Int.reduceLT, Int.reduceToNat, Int.reduceNeg, reduceCtorEq, Int.reduceEq, SF0, SF1, SF2, DYb0, DHb0, DHb1, DHa0, DCg0, DCe0, DCe1, DCe2, DDb0, DBc0, DBc1, DDe0, DKa0, bysLen]
  refine br_dec (fun h1 => ?_) (fun h1 => ?_)
  · simp (disch := omega) only [SX0, SX1, SX2, SX3, SX4, SX5, SX6, SX7, SX8, SU0, SY0, SY1, Nat.reduceAdd, Nat.reduceMul, Nat.reduceSub, Nat.reduceLeDiff, Nat.reduceEqDiff, Nat.reduceLT, Nat.reduceBEq, ↓reduceIte, Int.reduceLE, Int.reduceLT, Int.reduceToNat, Int.reduceNeg, reduceCtorEq, Int.reduceEq, SF0, SF1, SF2, DYb0, DHb0, DHb1, DHa0, DCg0, DCe0, DCe1, DCe2, DDb0, DBc0, DBc1, DDe0, DKa0]
    exact fin_val ⟨rfl, rfl⟩
  simp (disch := omega) only [SX0, SX1, SX2, SX3, SX4, SX5, SX6, SX7, SX8, SU0, SY0, SY1, Nat.reduceAdd, Nat.reduceMul, Nat.reduceSub, Nat.reduceLeDiff, Nat.reduceEqDiff, Nat.reduceLT, Nat.reduceBEq, ↓reduceIte, Int.reduceLE, Int.reduceLT, Int.reduceToNat, Int.reduceNeg, reduceCtorEq, Int.reduceEq, SF0, SF1, SF2, DYb0, DHb0, DHb1, DHa0, DCg0, DCe0, DCe1, DCe2, DDb0, DBc0, DBc1, DDe0, DKa0]
  refine acall_own (drawPlanValue_c xs hx) [] [] (by simp only [SX0, SX1, SX2, SX3, SX4, SX5, SX6, SX7, SX8, SU0, SY0, SY1, Nat.reduceAdd, Nat.reduceMul, Nat.reduceSub, Nat.reduceLeDiff, Nat.reduceEqDiff, Nat.reduceLT, Nat.reduceBEq, ↓reduceIte, Int.reduceLE, Int.reduceLT, Int.reduceToNat, Int.reduceNeg, reduceCtorEq, Int.reduceEq, SF0, SF1, SF2, DYb0, DHb0, DHb1, DHa0, DCg0, DCe0, DCe1, DCe2, DDb0, DBc0, DBc1, DDe0, DKa0, SX0]) (by decide) (by decide) (by rfl) (by simp only [SX0, SX1, SX2, SX3, SX4, SX5, SX6, SX7, SX8, SU0, SY0, SY1, Nat.reduceAdd, Nat.reduceMul, Nat.reduceSub, Nat.reduceLeDiff, Nat.reduceEqDiff, Nat.reduceLT, Nat.reduceBEq, ↓reduceIte, Int.reduceLE, Int.reduceLT, Int.reduceToNat, Int.reduceNeg, reduceCtorEq, Int.reduceEq, SF0, SF1, SF2, DYb0, DHb0, DHb1, DHa0, DCg0, DCe0, DCe1, DCe2, DDb0, DBc0, DBc1, DDe0, DKa0, SX0]) ?_
  rintro _ _ ⟨rfl, k, p, S, rfl, hk, hS⟩
  have hk24 := hk.2.2.1
  have hkl : k.Ps.length < 2 ^ 40 := by omega
  have V1 := planValueI_c k p S hkl (by omega)
  have V2 := planValueS_c k p S hkl (by omega)
  simp (disch := omega) only [SX0, SX1, SX2, SX3, SX4, SX5, SX6, SX7, SX8, SU0, SY0, SY1, Nat.reduceAdd, Nat.reduceMul, Nat.reduceSub, Nat.reduceLeDiff, Nat.reduceEqDiff, Nat.reduceLT, Nat.reduceBEq, ↓reduceIte, Int.reduceLE, Int.reduceLT, Int.reduceToNat, Int.reduceNeg, reduceCtorEq, Int.reduceEq, SF0, SF1, SF2, DYb0, DHb0, DHb1, DHa0, DCg0, DCe0, DCe1, DCe2, DDb0, DBc0, DBc1, DDe0, DKa0]
  refine acall_one V1 (by simp [freeL, AV.free, Plan.free, Work.free]) rfl ?_
  simp (disch := omega) only [SX0, SX1, SX2, SX3, SX4, SX5, SX6, SX7, SX8, SU0, SY0, SY1, Nat.reduceAdd, Nat.reduceMul, Nat.reduceSub, Nat.reduceLeDiff, Nat.reduceEqDiff, Nat.reduceLT, Nat.reduceBEq, ↓reduceIte, Int.reduceLE, Int.reduceLT, Int.reduceToNat, Int.reduceNeg, reduceCtorEq, Int.reduceEq, SF0, SF1, SF2, DYb0, DHb0, DHb1, DHa0, DCg0, DCe0, DCe1, DCe2, DDb0, DBc0, DBc1, DDe0, DKa0]
  refine acall_one V2 (by simp [freeL, AV.free, Plan.free, Work.free]) rfl ?_
  simp (disch := omega) only [SX0, SX1, SX2, SX3, SX4, SX5, SX6, SX7, SX8, SU0, SY0, SY1, Nat.reduceAdd, Nat.reduceMul, Nat.reduceSub, Nat.reduceLeDiff, Nat.reduceEqDiff, Nat.reduceLT, Nat.reduceBEq, ↓reduceIte, Int.reduceLE, Int.reduceLT, Int.reduceToNat, Int.reduceNeg, reduceCtorEq, Int.reduceEq, SF0, SF1, SF2, DYb0, DHb0, DHb1, DHa0, DCg0, DCe0, DCe1, DCe2, DDb0, DBc0, DBc1, DDe0, DKa0]
  refine br_dec (fun h2 => ?_) (fun h2 => ?_)
  · simp (disch := omega) only [SX0, SX1, SX2, SX3, SX4, SX5, SX6, SX7, SX8, SU0, SY0, SY1, Nat.reduceAdd, Nat.reduceMul, Nat.reduceSub, Nat.reduceLeDiff, Nat.reduceEqDiff, Nat.reduceLT, Nat.reduceBEq, ↓reduceIte, Int.reduceLE, Int.reduceLT, Int.reduceToNat, Int.reduceNeg, reduceCtorEq, Int.reduceEq, SF0, SF1, SF2, DYb0, DHb0, DHb1, DHa0, DCg0, DCe0, DCe1, DCe2, DDb0, DBc0, DBc1, DDe0, DKa0]
    refine acall_one V2 (by simp [freeL, AV.free, Plan.free, Work.free]) rfl ?_
    simp (disch := omega) only [SX0, SX1, SX2, SX3, SX4, SX5, SX6, SX7, SX8, SU0, SY0, SY1, Nat.reduceAdd, Nat.reduceMul, Nat.reduceSub, Nat.reduceLeDiff, Nat.reduceEqDiff, Nat.reduceLT, Nat.reduceBEq, ↓reduceIte, Int.reduceLE, Int.reduceLT, Int.reduceToNat, Int.reduceNeg, reduceCtorEq, Int.reduceEq, SF0, SF1, SF2, DYb0, DHb0, DHb1, DHa0, DCg0, DCe0, DCe1, DCe2, DDb0, DBc0, DBc1, DDe0, DKa0]
    exact fin_val ⟨rfl, rfl⟩
  have hvg : p.valid k ∧ goodV k S := Classical.byContradiction fun hn => h2 (by unfold Plan.value; rw [if_neg hn]; decide)
  obtain ⟨hv, hg⟩ := hvg
  have he : p.value k S = (p.worth k S).sum := by unfold Plan.value; rw [if_pos ⟨hv, hg⟩]
  simp (disch := omega) only [SX0, SX1, SX2, SX3, SX4, SX5, SX6, SX7, SX8, SU0, SY0, SY1, Nat.reduceAdd, Nat.reduceMul, Nat.reduceSub, Nat.reduceLeDiff, Nat.reduceEqDiff, Nat.reduceLT, Nat.reduceBEq, ↓reduceIte, Int.reduceLE, Int.reduceLT, Int.reduceToNat, Int.reduceNeg, reduceCtorEq, Int.reduceEq, SF0, SF1, SF2, DYb0, DHb0, DHb1, DHa0, DCg0, DCe0, DCe1, DCe2, DDb0, DBc0, DBc1, DDe0, DKa0]
  refine acall_own (bestValueI_c k S hkl (by omega)) [] [] (by simp only [SX0, SX1, SX2, SX3, SX4, SX5, SX6, SX7, SX8, SU0, SY0, SY1, Nat.reduceAdd, Nat.reduceMul, Nat.reduceSub, Nat.reduceLeDiff, Nat.reduceEqDiff, Nat.reduceLT, Nat.reduceBEq, ↓reduceIte, Int.reduceLE, Int.reduceLT, Int.reduceToNat, Int.reduceNeg, reduceCtorEq, Int.reduceEq, SF0, SF1, SF2, DYb0, DHb0, DHb1, DHa0, DCg0, DCe0, DCe1, DCe2, DDb0, DBc0, DBc1, DDe0, DKa0, SX0]) (by decide) (by decide) (by rfl) (by simp only [SX0, SX1, SX2, SX3, SX4, SX5, SX6, SX7, SX8, SU0, SY0, SY1, Nat.reduceAdd, Nat.reduceMul, Nat.reduceSub, Nat.reduceLeDiff, Nat.reduceEqDiff, Nat.reduceLT, Nat.reduceBEq, ↓reduceIte, Int.reduceLE, Int.reduceLT, Int.reduceToNat, Int.reduceNeg, reduceCtorEq, Int.reduceEq, SF0, SF1, SF2, DYb0, DHb0, DHb1, DHa0, DCg0, DCe0, DCe1, DCe2, DDb0, DBc0, DBc1, DDe0, DKa0, SX0]) ?_
  rintro _ _ ⟨⟨m, rfl, hm⟩, rfl⟩
  simp (disch := omega) only [SX0, SX1, SX2, SX3, SX4, SX5, SX6, SX7, SX8, SU0, SY0, SY1, Nat.reduceAdd, Nat.reduceMul, Nat.reduceSub, Nat.reduceLeDiff, Nat.reduceEqDiff, Nat.reduceLT, Nat.reduceBEq, ↓reduceIte, Int.reduceLE, Int.reduceLT, Int.reduceToNat, Int.reduceNeg, reduceCtorEq, Int.reduceEq, SF0, SF1, SF2, DYb0, DHb0, DHb1, DHa0, DCg0, DCe0, DCe1, DCe2, DDb0, DBc0, DBc1, DDe0, DKa0]
  refine br_dec (fun h3 => ?_) (fun h3 => ?_)
  · simp (disch := omega) only [SX0, SX1, SX2, SX3, SX4, SX5, SX6, SX7, SX8, SU0, SY0, SY1, Nat.reduceAdd, Nat.reduceMul, Nat.reduceSub, Nat.reduceLeDiff, Nat.reduceEqDiff, Nat.reduceLT, Nat.reduceBEq, ↓reduceIte, Int.reduceLE, Int.reduceLT, Int.reduceToNat, Int.reduceNeg, reduceCtorEq, Int.reduceEq, SF0, SF1, SF2, DYb0, DHb0, DHb1, DHa0, DCg0, DCe0, DCe1, DCe2, DDb0, DBc0, DBc1, DDe0, DKa0]
    exact fin_val ⟨rfl, rfl⟩
  obtain hm | ⟨f, hB, hko, hmf, hU⟩ := hm
  · exact absurd hm h3
  have hko' := hko
  obtain ⟨k1, k2, _⟩ := hko'
  have hle := worth_le hg hB hU p hv.2.1.1 k.sheet hv.2.2 ⟨by show 1 ≤ k.W; omega, by show k.W ≤ _; omega⟩ ⟨by show 1 ≤ k.H; omega, by show k.H ≤ _; omega⟩
  have hle2 : p.value k S ≤ m := by rw [he, hmf]; exact hle
  simp (disch := omega) only [SX0, SX1, SX2, SX3, SX4, SX5, SX6, SX7, SX8, SU0, SY0, SY1, Nat.reduceAdd, Nat.reduceMul, Nat.reduceSub, Nat.reduceLeDiff, Nat.reduceEqDiff, Nat.reduceLT, Nat.reduceBEq, ↓reduceIte, Int.reduceLE, Int.reduceLT, Int.reduceToNat, Int.reduceNeg, reduceCtorEq, Int.reduceEq, SF0, SF1, SF2, DYb0, DHb0, DHb1, DHa0, DCg0, DCe0, DCe1, DCe2, DDb0, DBc0, DBc1, DDe0, DKa0]
  exact fin_val ⟨(vT hle2).symm, rfl⟩

end Go.Pc
