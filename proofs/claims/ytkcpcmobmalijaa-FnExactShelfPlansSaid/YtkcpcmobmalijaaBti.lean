/- Plans of rows of panes, exactly: the law holds of all arguments. -/
import Derived.Test.YtkcpcmobmalijaaBth
import Derived.Test.YtkcpcmobmalijaaBsh
import Derived.Test.YtkcpcmobmalijaaBsi
import Derived.Test.YtkcpcmobmalijaaRy
import Derived.Test.YtkcpcmobmalijaaHa
import Derived.Test.YtkcpcmobmalijaaLa
set_option linter.unusedSimpArgs false
set_option linter.unusedVariables false
namespace Go.Pc
open Go Go.Proofs

theorem nodesL_bound {b : Nat} : ∀ {l : List Plan}, (∀ q ∈ l, q.nodes ≤ b) → Plan.nodesL l ≤ b * l.length
  | [], _ => by simp [Plan.nodesL]
  | q :: l, h => by
    have h1 := nodesL_bound (l := l) fun x hx => h x (by simp [hx])
    have h2 := h q (by simp)
    simp only [Plan.nodesL, List.length_cons, Nat.mul_add, Nat.mul_one]
    omega
theorem sheet_nodes {k : Work} (hk : plainW k) {t : List (List Int)} (ht : SheetOk k t) (hl : t.flatten.length ≤ 24) : (sheetP k t k.H).nodes ≤ 255 := by
  obtain ⟨h1, h2, h3, h4, h5, h6⟩ := sheetP_all hk t k.H ht.rows ht.high
  have h7 := flat_len (A := t) fun r hr => (ht.rows r hr).ne
  omega
theorem shelfOf_nodes (k : Work) (o : List Int) (ho : OrdS k o) : Plan.nodesL (shelfOf k o) ≤ 6120 ∧ (shelfOf k o).length ≤ 24 := by
  unfold shelfOf
  split
  · rename_i hp
    have hall := (shRun_all hp ho).2
    have hlen := sheets_len hall
    have hlen0 := (shRun_all hp ho).1
    rw [hlen0, ho.len] at hlen
    have hkw := hp.1
    unfold Work.ok at hkw
    have hl : (shelfPlansP k o).length ≤ 24 := by unfold shelfPlansP; rw [List.length_map]; omega
    refine ⟨?_, hl⟩
    have := nodesL_bound (b := 255) (l := shelfPlansP k o) fun q hq => by
      obtain ⟨t, ht, rfl⟩ := List.mem_map.1 hq
      have h1 := mem_flat_len (List.mem_map_of_mem (f := List.flatten) ht)
      have h2 : ((shRun k o).all.map List.flatten).flatten = (shRun k o).all.flatten.flatten := by rw [List.flatten_flatten]
      rw [h2, hlen0, ho.len] at h1
      exact sheet_nodes hp (hall t ht) (by omega)
    omega
  · exact ⟨by simp [Plan.nodesL], by simp⟩

theorem acall_borL {P : Program} {fx : List Nat} {f : FuncId} {args' : List AV} {l : List Plan} (h : ACalls P f args' [] [] (TreeL l)) {args : List AV} {s : AS} (hb : BorL s.L args args')
    {K : AV → AS → Prop} (hK : ∀ S v, v.oneCell' = true → K (.val v) { s with L := s.L ++ [.forest S [(v, .sl (l.map Plan.cs))]] }) : ACall P fx (.fn f []) args s K :=
  acall_bor h hb (fun r L ⟨S, v, _, h1, h2⟩ => by subst h1; subst h2; exact ⟨rfl, rfl⟩) fun r L ⟨S, v, h0, h1, h2⟩ => by
    subst h1; subst h2
    exact hK S v h0

def FnExactShelfPlans_hyp : Prop := ∀ (x0 : Work) (_ : x0.Ps.length ≤ 9223372036854775807), ACalls Try.prog 6 [.agg x0.cs] [] [] (fun r L => r = .val (.bool true) ∧ L = [])
theorem e_fnExactShelfPlans : Enters Try.prog 6 := enters_of Try.func6 (by kernel_rfl) (by kernel_rfl)
set_option maxRecDepth 8000 in
set_option maxHeartbeats 4000000 in
theorem fnExactShelfPlans_c : FnExactShelfPlans_hyp := by
  intro k hk
  refine acalls_tm T_tt Try.func6 rfl e_fnExactShelfPlans 68 rfl (W8 _ .any .any .any .any .any .any .any (W8 .any .any .any .any .any .any .any .any (W8 .any .any .any .any .any .any .any .any (W8 .any .any .any .any .any .any .any .any (W8 .any .any .any .any .any .any .any .any (W8 .any .any .any .any .any .any .any .any (W8 .any .any .any .any .any .any .any .any (W8 .any .any .any .any .any .any .any .any [.any, .any, .any, .any, .any])))))))) rfl (rv := [.tmp 2]) rfl (sx_sound (bl := []) T_tt _ _ _ ?_)
  simp (disch := omega) only [SX0, SX1, SX2, SX3, SX4, SX5, SX6, SX7, SX8, SU0, SY0, SY1, Nat.reduceAdd, Nat.reduceMul, Nat.reduceSub, Nat.reduceLeDiff, Nat.reduceEqDiff, Nat.reduceLT, Nat.reduceBEq, ↓reduceIte, Int.reduceLE, Int.reduceLT, Int.reduceToNat, Int.reduceNeg, reduceCtorEq, Int.reduceEq, SF0, SF1, SF2, DBtf0, DLa0, DCg0, DCe0, DCe1, DCe2, DDb0, DBc0, DBc1, DHa0, DHb0, DHb1, DDe0, DAlh0, DAlv0, DBtc0, DBtc1]
  refine acall_one (szWork_c k 1048576 hk (by omega)) rfl rfl ?_
  simp (disch := omega) only [SX0, SX1, SX2, SX3, SX4, SX5, SX6, SX7, SX8, SU0, SY0, SY1, Nat.reduceAdd, Nat.reduceMul, Nat.reduceSub, Nat.reduceLeDiff, Nat.reduceEqDiff, Nat.reduceLT, Nat.reduceBEq, ↓reduceIte, Int.reduceLE, Int.reduceLT, Int.reduceToNat, Int.reduceNeg, reduceCtorEq, Int.reduceEq, SF0, SF1, SF2, DBtf0, DLa0, DCg0, DCe0, DCe1, DCe2, DDb0, DBc0, DBc1, DHa0, DHb0, DHb1, DDe0, DAlh0, DAlv0, DBtc0, DBtc1]
  refine br_dec (fun h1 => ?_) (fun h1 => ?_)
  · simp (disch := omega) only [SX0, SX1, SX2, SX3, SX4, SX5, SX6, SX7, SX8, SU0, SY0, SY1, Nat.reduceAdd, Nat.reduceMul, Nat.reduceSub, Nat.reduceLeDiff, Nat.reduceEqDiff, Nat.reduceLT, Nat.reduceBEq, ↓reduceIte, Int.reduceLE, Int.reduceLT, Int.reduceToNat, Int.reduceNeg, reduceCtorEq, Int.reduceEq, SF0, SF1, SF2, DBtf0, DLa0, DCg0, DCe0, DCe1, DCe2, DDb0, DBc0, DBc1, DHa0, DHb0, DHb1, DDe0, DAlh0, DAlv0, DBtc0, DBtc1]
    exact fin_val ⟨rfl, rfl⟩
  have hkn : k.Ps.length ≤ 1048576 := by have := leftOf_pos h1; omega
  have TW := toWork_c k hkn
  obtain ⟨o, ho⟩ := OrdS.ex k
  have US := shelfOfS_c k (by omega) o ho
  have UF := shelfOf_f k o ho (by omega)
  have UZ := shelfOfI2_c k o ho (by omega)
  obtain ⟨hb1, hb2⟩ := shelfOf_nodes k o ho
  generalize shelfOf k o = l at *
  have EQ := eqPlanS_of l (by omega) fun q hq => eqPlan_c q (by have := nodesL_kid hq; omega)
  have HE := heldPlanS_n _ l (Nat.le_refl _) (by omega) 1 (by omega)
  simp (disch := omega) only [SX0, SX1, SX2, SX3, SX4, SX5, SX6, SX7, SX8, SU0, SY0, SY1, Nat.reduceAdd, Nat.reduceMul, Nat.reduceSub, Nat.reduceLeDiff, Nat.reduceEqDiff, Nat.reduceLT, Nat.reduceBEq, ↓reduceIte, Int.reduceLE, Int.reduceLT, Int.reduceToNat, Int.reduceNeg, reduceCtorEq, Int.reduceEq, SF0, SF1, SF2, DBtf0, DLa0, DCg0, DCe0, DCe1, DCe2, DDb0, DBc0, DBc1, DHa0, DHb0, DHb1, DDe0, DAlh0, DAlv0, DBtc0, DBtc1]
  refine acall_one TW rfl rfl ?_
  simp (disch := omega) only [SX0, SX1, SX2, SX3, SX4, SX5, SX6, SX7, SX8, SU0, SY0, SY1, Nat.reduceAdd, Nat.reduceMul, Nat.reduceSub, Nat.reduceLeDiff, Nat.reduceEqDiff, Nat.reduceLT, Nat.reduceBEq, ↓reduceIte, Int.reduceLE, Int.reduceLT, Int.reduceToNat, Int.reduceNeg, reduceCtorEq, Int.reduceEq, SF0, SF1, SF2, DBtf0, DLa0, DCg0, DCe0, DCe1, DCe2, DDb0, DBc0, DBc1, DHa0, DHb0, DHb1, DDe0, DAlh0, DAlv0, DBtc0, DBtc1]
  refine acall_one US (by simp [freeL, AV.free, Work.free]) (by simp [AV.free]) ?_
  simp (disch := omega) only [SX0, SX1, SX2, SX3, SX4, SX5, SX6, SX7, SX8, SU0, SY0, SY1, Nat.reduceAdd, Nat.reduceMul, Nat.reduceSub, Nat.reduceLeDiff, Nat.reduceEqDiff, Nat.reduceLT, Nat.reduceBEq, ↓reduceIte, Int.reduceLE, Int.reduceLT, Int.reduceToNat, Int.reduceNeg, reduceCtorEq, Int.reduceEq, SF0, SF1, SF2, DBtf0, DLa0, DCg0, DCe0, DCe1, DCe2, DDb0, DBc0, DBc1, DHa0, DHb0, DHb1, DDe0, DAlh0, DAlv0, DBtc0, DBtc1]
  refine acall_own (toWork_f k hkn) [] [] (by simp only [SX0, SX1, SX2, SX3, SX4, SX5, SX6, SX7, SX8, SU0, SY0, SY1, Nat.reduceAdd, Nat.reduceMul, Nat.reduceSub, Nat.reduceLeDiff, Nat.reduceEqDiff, Nat.reduceLT, Nat.reduceBEq, ↓reduceIte, Int.reduceLE, Int.reduceLT, Int.reduceToNat, Int.reduceNeg, reduceCtorEq, Int.reduceEq, SF0, SF1, SF2, DBtf0, DLa0, DCg0, DCe0, DCe1, DCe2, DDb0, DBc0, DBc1, DHa0, DHb0, DHb1, DDe0, DAlh0, DAlv0, DBtc0, DBtc1, SX0]) (by decide) (by decide) (by rfl) (by simp only [SX0, SX1, SX2, SX3, SX4, SX5, SX6, SX7, SX8, SU0, SY0, SY1, Nat.reduceAdd, Nat.reduceMul, Nat.reduceSub, Nat.reduceLeDiff, Nat.reduceEqDiff, Nat.reduceLT, Nat.reduceBEq, ↓reduceIte, Int.reduceLE, Int.reduceLT, Int.reduceToNat, Int.reduceNeg, reduceCtorEq, Int.reduceEq, SF0, SF1, SF2, DBtf0, DLa0, DCg0, DCe0, DCe1, DCe2, DDb0, DBc0, DBc1, DHa0, DHb0, DHb1, DDe0, DAlh0, DAlv0, DBtc0, DBtc1, SX0]) ?_
  rintro _ _ ⟨S0, v0, hv0, rfl, rfl⟩
  simp (disch := omega) only [SX0, SX1, SX2, SX3, SX4, SX5, SX6, SX7, SX8, SU0, SY0, SY1, Nat.reduceAdd, Nat.reduceMul, Nat.reduceSub, Nat.reduceLeDiff, Nat.reduceEqDiff, Nat.reduceLT, Nat.reduceBEq, ↓reduceIte, Int.reduceLE, Int.reduceLT, Int.reduceToNat, Int.reduceNeg, reduceCtorEq, Int.reduceEq, SF0, SF1, SF2, DBtf0, DLa0, DCg0, DCe0, DCe1, DCe2, DDb0, DBc0, DBc1, DHa0, DHb0, DHb1, DDe0, DAlh0, DAlv0, DBtc0, DBtc1, SX0, hv0, if_true, Work.csV]
  refine acall_borL UF (by exact ⟨bor_work 1 rfl, trivial⟩) fun S2 v2 hv2 => ?_
  simp (disch := omega) only [SX0, SX1, SX2, SX3, SX4, SX5, SX6, SX7, SX8, SU0, SY0, SY1, Nat.reduceAdd, Nat.reduceMul, Nat.reduceSub, Nat.reduceLeDiff, Nat.reduceEqDiff, Nat.reduceLT, Nat.reduceBEq, ↓reduceIte, Int.reduceLE, Int.reduceLT, Int.reduceToNat, Int.reduceNeg, reduceCtorEq, Int.reduceEq, SF0, SF1, SF2, DBtf0, DLa0, DCg0, DCe0, DCe1, DCe2, DDb0, DBc0, DBc1, DHa0, DHb0, DHb1, DDe0, DAlh0, DAlv0, DBtc0, DBtc1, SX0, hv2, if_true]
  refine acall_tell EQ (by exact ⟨.item 3 0 S2 _ v2 _ rfl rfl, .free _ rfl, trivial⟩) ?_
  simp (disch := omega) only [SX0, SX1, SX2, SX3, SX4, SX5, SX6, SX7, SX8, SU0, SY0, SY1, Nat.reduceAdd, Nat.reduceMul, Nat.reduceSub, Nat.reduceLeDiff, Nat.reduceEqDiff, Nat.reduceLT, Nat.reduceBEq, ↓reduceIte, Int.reduceLE, Int.reduceLT, Int.reduceToNat, Int.reduceNeg, reduceCtorEq, Int.reduceEq, SF0, SF1, SF2, DBtf0, DLa0, DCg0, DCe0, DCe1, DCe2, DDb0, DBc0, DBc1, DHa0, DHb0, DHb1, DDe0, DAlh0, DAlv0, DBtc0, DBtc1, SX0]
  refine awp_float (bl := []) T_tt mixed [0, 2] [0, 1, 2] [(3, [(0, .f 27), (1, .f 28), (2, .f 29)]), (4, [])] [] (by kernel_rfl) (by kernel_rfl) ?_
  simp (disch := omega) only [SX0, SX1, SX2, SX3, SX4, SX5, SX6, SX7, SX8, SU0, SY0, SY1, Nat.reduceAdd, Nat.reduceMul, Nat.reduceSub, Nat.reduceLeDiff, Nat.reduceEqDiff, Nat.reduceLT, Nat.reduceBEq, ↓reduceIte, Int.reduceLE, Int.reduceLT, Int.reduceToNat, Int.reduceNeg, reduceCtorEq, Int.reduceEq, SF0, SF1, SF2, DBtf0, DLa0, DCg0, DCe0, DCe1, DCe2, DDb0, DBc0, DBc1, DHa0, DHb0, DHb1, DDe0, DAlh0, DAlv0, DBtc0, DBtc1, SX0]
  refine qc_one TW rfl ?_
  simp (disch := omega) only [SX0, SX1, SX2, SX3, SX4, SX5, SX6, SX7, SX8, SU0, SY0, SY1, Nat.reduceAdd, Nat.reduceMul, Nat.reduceSub, Nat.reduceLeDiff, Nat.reduceEqDiff, Nat.reduceLT, Nat.reduceBEq, ↓reduceIte, Int.reduceLE, Int.reduceLT, Int.reduceToNat, Int.reduceNeg, reduceCtorEq, Int.reduceEq, SF0, SF1, SF2, DBtf0, DLa0, DCg0, DCe0, DCe1, DCe2, DDb0, DBc0, DBc1, DHa0, DHb0, DHb1, DDe0, DAlh0, DAlv0, DBtc0, DBtc1, SX0]
  refine acall_tell (eqWork_c k (by omega)) (by exact ⟨bor_work 1 rfl, .free _ rfl, trivial⟩) ?_
  simp (disch := omega) only [SX0, SX1, SX2, SX3, SX4, SX5, SX6, SX7, SX8, SU0, SY0, SY1, Nat.reduceAdd, Nat.reduceMul, Nat.reduceSub, Nat.reduceLeDiff, Nat.reduceEqDiff, Nat.reduceLT, Nat.reduceBEq, ↓reduceIte, Int.reduceLE, Int.reduceLT, Int.reduceToNat, Int.reduceNeg, reduceCtorEq, Int.reduceEq, SF0, SF1, SF2, DBtf0, DLa0, DCg0, DCe0, DCe1, DCe2, DDb0, DBc0, DBc1, DHa0, DHb0, DHb1, DDe0, DAlh0, DAlv0, DBtc0, DBtc1, SX0]
  refine acall_item (fun S => markWork_f k hkn 1 (by omega) v0 S) 1 0 rfl rfl rfl fun S3 => ?_
  simp (disch := omega) only [SX0, SX1, SX2, SX3, SX4, SX5, SX6, SX7, SX8, SU0, SY0, SY1, Nat.reduceAdd, Nat.reduceMul, Nat.reduceSub, Nat.reduceLeDiff, Nat.reduceEqDiff, Nat.reduceLT, Nat.reduceBEq, ↓reduceIte, Int.reduceLE, Int.reduceLT, Int.reduceToNat, Int.reduceNeg, reduceCtorEq, Int.reduceEq, SF0, SF1, SF2, DBtf0, DLa0, DCg0, DCe0, DCe1, DCe2, DDb0, DBc0, DBc1, DHa0, DHb0, DHb1, DDe0, DAlh0, DAlv0, DBtc0, DBtc1, SX0]
  refine br_dec (fun h => by omega) (fun h => ?_)
  simp (disch := omega) only [SX0, SX1, SX2, SX3, SX4, SX5, SX6, SX7, SX8, SU0, SY0, SY1, Nat.reduceAdd, Nat.reduceMul, Nat.reduceSub, Nat.reduceLeDiff, Nat.reduceEqDiff, Nat.reduceLT, Nat.reduceBEq, ↓reduceIte, Int.reduceLE, Int.reduceLT, Int.reduceToNat, Int.reduceNeg, reduceCtorEq, Int.reduceEq, SF0, SF1, SF2, DBtf0, DLa0, DCg0, DCe0, DCe1, DCe2, DDb0, DBc0, DBc1, DHa0, DHb0, DHb1, DDe0, DAlh0, DAlv0, DBtc0, DBtc1, SX0]
  refine acall_tell EQ (by exact ⟨.item 3 0 S2 _ v2 _ rfl rfl, .free _ rfl, trivial⟩) ?_
  simp (disch := omega) only [SX0, SX1, SX2, SX3, SX4, SX5, SX6, SX7, SX8, SU0, SY0, SY1, Nat.reduceAdd, Nat.reduceMul, Nat.reduceSub, Nat.reduceLeDiff, Nat.reduceEqDiff, Nat.reduceLT, Nat.reduceBEq, ↓reduceIte, Int.reduceLE, Int.reduceLT, Int.reduceToNat, Int.reduceNeg, reduceCtorEq, Int.reduceEq, SF0, SF1, SF2, DBtf0, DLa0, DCg0, DCe0, DCe1, DCe2, DDb0, DBc0, DBc1, DHa0, DHb0, DHb1, DDe0, DAlh0, DAlv0, DBtc0, DBtc1, SX0]
  refine acall_item (fun S => markPlanS_f l (by omega) 1 (by omega) v2 S) 3 0 rfl rfl rfl fun S5 => ?_
  simp (disch := omega) only [SX0, SX1, SX2, SX3, SX4, SX5, SX6, SX7, SX8, SU0, SY0, SY1, Nat.reduceAdd, Nat.reduceMul, Nat.reduceSub, Nat.reduceLeDiff, Nat.reduceEqDiff, Nat.reduceLT, Nat.reduceBEq, ↓reduceIte, Int.reduceLE, Int.reduceLT, Int.reduceToNat, Int.reduceNeg, reduceCtorEq, Int.reduceEq, SF0, SF1, SF2, DBtf0, DLa0, DCg0, DCe0, DCe1, DCe2, DDb0, DBc0, DBc1, DHa0, DHb0, DHb1, DDe0, DAlh0, DAlv0, DBtc0, DBtc1, SX0]
  refine acall_tell HE (by exact ⟨.item 3 0 S5 _ v2 _ rfl rfl, .free _ rfl, trivial⟩) ?_
  simp (disch := omega) only [SX0, SX1, SX2, SX3, SX4, SX5, SX6, SX7, SX8, SU0, SY0, SY1, Nat.reduceAdd, Nat.reduceMul, Nat.reduceSub, Nat.reduceLeDiff, Nat.reduceEqDiff, Nat.reduceLT, Nat.reduceBEq, ↓reduceIte, Int.reduceLE, Int.reduceLT, Int.reduceToNat, Int.reduceNeg, reduceCtorEq, Int.reduceEq, SF0, SF1, SF2, DBtf0, DLa0, DCg0, DCe0, DCe1, DCe2, DDb0, DBc0, DBc1, DHa0, DHb0, DHb1, DDe0, DAlh0, DAlv0, DBtc0, DBtc1, SX0]
  refine br_dec (fun h => by omega) (fun h => ?_)
  simp (disch := omega) only [SX0, SX1, SX2, SX3, SX4, SX5, SX6, SX7, SX8, SU0, SY0, SY1, Nat.reduceAdd, Nat.reduceMul, Nat.reduceSub, Nat.reduceLeDiff, Nat.reduceEqDiff, Nat.reduceLT, Nat.reduceBEq, ↓reduceIte, Int.reduceLE, Int.reduceLT, Int.reduceToNat, Int.reduceNeg, reduceCtorEq, Int.reduceEq, SF0, SF1, SF2, DBtf0, DLa0, DCg0, DCe0, DCe1, DCe2, DDb0, DBc0, DBc1, DHa0, DHb0, DHb1, DDe0, DAlh0, DAlv0, DBtc0, DBtc1, SX0]
  refine acall_one TW rfl rfl ?_
  simp (disch := omega) only [SX0, SX1, SX2, SX3, SX4, SX5, SX6, SX7, SX8, SU0, SY0, SY1, Nat.reduceAdd, Nat.reduceMul, Nat.reduceSub, Nat.reduceLeDiff, Nat.reduceEqDiff, Nat.reduceLT, Nat.reduceBEq, ↓reduceIte, Int.reduceLE, Int.reduceLT, Int.reduceToNat, Int.reduceNeg, reduceCtorEq, Int.reduceEq, SF0, SF1, SF2, DBtf0, DLa0, DCg0, DCe0, DCe1, DCe2, DDb0, DBc0, DBc1, DHa0, DHb0, DHb1, DDe0, DAlh0, DAlv0, DBtc0, DBtc1, SX0]
  refine acall_one UZ (by simp [freeL, AV.free, Work.free]) (by simp [AV.free]) ?_
  simp (disch := omega) only [SX0, SX1, SX2, SX3, SX4, SX5, SX6, SX7, SX8, SU0, SY0, SY1, Nat.reduceAdd, Nat.reduceMul, Nat.reduceSub, Nat.reduceLeDiff, Nat.reduceEqDiff, Nat.reduceLT, Nat.reduceBEq, ↓reduceIte, Int.reduceLE, Int.reduceLT, Int.reduceToNat, Int.reduceNeg, reduceCtorEq, Int.reduceEq, SF0, SF1, SF2, DBtf0, DLa0, DCg0, DCe0, DCe1, DCe2, DDb0, DBc0, DBc1, DHa0, DHb0, DHb1, DDe0, DAlh0, DAlv0, DBtc0, DBtc1, SX0]
  refine acall_one EQ (by simp [freeL, AV.free]) rfl ?_
  simp (disch := omega) only [SX0, SX1, SX2, SX3, SX4, SX5, SX6, SX7, SX8, SU0, SY0, SY1, Nat.reduceAdd, Nat.reduceMul, Nat.reduceSub, Nat.reduceLeDiff, Nat.reduceEqDiff, Nat.reduceLT, Nat.reduceBEq, ↓reduceIte, Int.reduceLE, Int.reduceLT, Int.reduceToNat, Int.reduceNeg, reduceCtorEq, Int.reduceEq, SF0, SF1, SF2, DBtf0, DLa0, DCg0, DCe0, DCe1, DCe2, DDb0, DBc0, DBc1, DHa0, DHb0, DHb1, DDe0, DAlh0, DAlv0, DBtc0, DBtc1, SX0]
  refine acall_tell HE (by exact ⟨.item 3 0 S5 _ v2 _ rfl rfl, .free _ rfl, trivial⟩) ?_
  simp (disch := omega) only [SX0, SX1, SX2, SX3, SX4, SX5, SX6, SX7, SX8, SU0, SY0, SY1, Nat.reduceAdd, Nat.reduceMul, Nat.reduceSub, Nat.reduceLeDiff, Nat.reduceEqDiff, Nat.reduceLT, Nat.reduceBEq, ↓reduceIte, Int.reduceLE, Int.reduceLT, Int.reduceToNat, Int.reduceNeg, reduceCtorEq, Int.reduceEq, SF0, SF1, SF2, DBtf0, DLa0, DCg0, DCe0, DCe1, DCe2, DDb0, DBc0, DBc1, DHa0, DHb0, DHb1, DDe0, DAlh0, DAlv0, DBtc0, DBtc1, SX0]
  refine br_dec (fun h => by omega) (fun h => ?_)
  simp (disch := omega) only [SX0, SX1, SX2, SX3, SX4, SX5, SX6, SX7, SX8, SU0, SY0, SY1, Nat.reduceAdd, Nat.reduceMul, Nat.reduceSub, Nat.reduceLeDiff, Nat.reduceEqDiff, Nat.reduceLT, Nat.reduceBEq, ↓reduceIte, Int.reduceLE, Int.reduceLT, Int.reduceToNat, Int.reduceNeg, reduceCtorEq, Int.reduceEq, SF0, SF1, SF2, DBtf0, DLa0, DCg0, DCe0, DCe1, DCe2, DDb0, DBc0, DBc1, DHa0, DHb0, DHb1, DDe0, DAlh0, DAlv0, DBtc0, DBtc1, SX0]
  exact fin_val ⟨rfl, rfl⟩

end Go.Pc
