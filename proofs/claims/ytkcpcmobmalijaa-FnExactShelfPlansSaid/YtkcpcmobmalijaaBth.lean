/- Plans of rows of panes: their memory is their own. -/
import Derived.Test.YtkcpcmobmalijaaBtf
import Derived.Test.YtkcpcmobmalijaaBsf
import Derived.Test.YtkcpcmobmalijaaVa
set_option linter.unusedSimpArgs false
set_option linter.unusedVariables false
namespace Go.Pc
open Go Go.Proofs

theorem forest_nils {w : World} {S : Nat → Prop} (n : Nat) : Forest w S (List.replicate n (.slice none 0 0, .sl [])) :=
  ⟨fun _ _ => False, fun _ _ h => h.elim, fun _ _ _ h => h.elim, fun m v x hm => by
    have := List.mem_of_getElem? hm
    obtain ⟨_, h⟩ := List.mem_replicate.1 this
    cases h
    exact .nil _ _ _⟩
theorem rows_two (x y : Plan) (vx vy : Value) : rowsK 4 ([x, y].map Plan.cs) [vx, vy] = [x.csV vx, y.csV vy] := by simp [rowsK, Plan.set4]
theorem items_two (x y : Plan) (vx vy : Value) : itemsK 4 ([x, y].map Plan.cs) [vx, vy] = [(vx, .sl (x.ks.map Plan.cs)), (vy, .sl (y.ks.map Plan.cs))] := by simp [itemsK, Plan.cs_eq]

theorem e_rowPlanF : Enters Try.prog 132 := enters_of Try.func132 (by kernel_rfl) (by kernel_rfl)
set_option maxRecDepth 16000 in
set_option maxHeartbeats 8000000 in
theorem rowPlan_f (k : Work) (hk : plainW k) (h : Int) : ∀ (r : List Int) (w : Int), r ≠ [] → (∀ i ∈ r, 0 ≤ i ∧ i < (k.Ps.length : Int)) → -1000000 + 200 * r.length ≤ w → w ≤ 200 → r.length ≤ 1000 → ACalls Try.prog 132 [.agg k.cs, .sl (ints r), .val (.int .i64 w), .val (.int .i64 h)] [] [] (TreeR (rowP k r w h)) := by
  intro r
  induction r with
  | nil => intro w h0; exact absurd rfl h0
  | cons i r ih =>
  intro w _ hi hw1 hw2 hrl
  have him := hi i (by simp)
  have gi := paneA_get him
  obtain ⟨pi1, pi2, _⟩ := hk.pane him
  have hi0 : (0 ≤ i) = True := eq_true him.1
  have hkw := hk.1
  unfold Work.ok at hkw
  simp only [List.length_cons] at hw1 hrl
  have hrp : rowP k (i :: r) w h = if (paneA k i).W = w then oneP k i h else .mk 2 (paneA k i).W 0 false [oneP k i h, rowP k r (w - (paneA k i).W) h] := by rw [rowP]
  rw [hrp]
  generalize hq : paneA k i = q at *
  have hone : oneP k i h = if q.H < h then .mk 3 q.H 0 false [.mk 1 0 i false [], wasteP] else .mk 1 0 i false [] := by unfold oneP; rw [hq]
  have hkf : ∀ f, k.cs.map (AV.filt f) = k.cs := fun f => freeL_filt k.free
  have hkg : ∀ f, filtL f k.cs = k.cs := fun f => by rw [filtL_map]; exact hkf f
  refine acalls_tm T_tt Try.func132 rfl e_rowPlanF 53 rfl (W8 _ _ _ _ .any .any .any .any (W8 .any .any .any .any .any .any .any .any (W8 .any .any .any .any .any .any .any .any (W8 .any .any .any .any .any .any .any .any (W8 .any .any .any .any .any .any .any .any (W8 .any .any .any .any .any .any .any .any (W8 .any .any .any .any .any .any .any .any [.any]))))))) rfl (rv := [.cell 8 31]) rfl ?_
  refine awp_seqD (sx_sound (bl := []) T_tt _ _ _ ?_)
  simp (disch := omega) only [SX0, SX1, SX2, SX3, SX4, SX5, SX6, SX7, SX8, SU0, SY0, SY1, Nat.reduceAdd, Nat.reduceMul, Nat.reduceSub, Nat.reduceLeDiff, Nat.reduceEqDiff, Nat.reduceLT, Nat.reduceBEq, ↓reduceIte, Int.reduceLE, Int.reduceLT, Int.reduceToNat, Int.reduceNeg, reduceCtorEq, Int.reduceEq, SF0, SF1, SF2, DBtf0, DLa0, DCg0, DCe0, DCe1, DCe2, DDb0, DBc0, DBc1, DHa0, DHb0, DHb1, DDe0, DAlh0, DAlv0, DBtc0, DBtc1]
  refine athen_m (awp_seqD ?_)
  refine awp_floatG (bl := []) T_tt mixed [0, 1] [0, 1, 2, 3, 4, 5, 6] [0, 1, 2, 3, 4, 5, 6] [⟨8, [0, 1], [(0, .f 12), (1, .f 13), (2, .f 14), (3, .f 15), (4, .f 16), (5, .f 17), (6, .f 18), (7, .a 9 63)], [], []⟩] [] (by kernel_rfl) (by kernel_rfl) ?_
  repeat' first | simp (disch := omega) only [SX0, SX1, SX2, SX3, SX4, SX5, SX6, SX7, SX8, SU0, SY0, SY1, Nat.reduceAdd, Nat.reduceMul, Nat.reduceSub, Nat.reduceLeDiff, Nat.reduceEqDiff, Nat.reduceLT, Nat.reduceBEq, ↓reduceIte, Int.reduceLE, Int.reduceLT, Int.reduceToNat, Int.reduceNeg, reduceCtorEq, Int.reduceEq, SF0, SF1, SF2, DBtf0, DLa0, DCg0, DCe0, DCe1, DCe2, DDb0, DBc0, DBc1, DHa0, DHb0, DHb1, DDe0, DAlh0, DAlv0, DBtc0, DBtc1, SX0, gi, hi0, Pane.cs, List.map_cons, List.getElem?_cons_zero] | refine req (by omega) ?_ | fail
  refine athen_m (awp_seqD (sx_sound (bl := []) T_tt _ _ _ ?_))
  repeat' first | simp (disch := omega) only [SX0, SX1, SX2, SX3, SX4, SX5, SX6, SX7, SX8, SU0, SY0, SY1, Nat.reduceAdd, Nat.reduceMul, Nat.reduceSub, Nat.reduceLeDiff, Nat.reduceEqDiff, Nat.reduceLT, Nat.reduceBEq, ↓reduceIte, Int.reduceLE, Int.reduceLT, Int.reduceToNat, Int.reduceNeg, reduceCtorEq, Int.reduceEq, SF0, SF1, SF2, DBtf0, DLa0, DCg0, DCe0, DCe1, DCe2, DDb0, DBc0, DBc1, DHa0, DHb0, DHb1, DDe0, DAlh0, DAlv0, DBtc0, DBtc1, List.getElem?_cons_zero] | refine req (by omega) ?_ | fail
  refine athen_m ?_
  refine awp_cutE (G := (Nat → Prop) × Value) 12 45 (fun _ => []) (fun g => [.cells k.cs, .cells [.val (.int .i64 0), .val (.int .i64 0), .val (.int .i64 0), .val (.bool false), .val (.slice none 0 0)], .cells [.val (.int .i64 q.W), .val (.int .i64 q.H), .val (.bool q.Tu), .val (.int .i64 q.Ki)], .cells ((oneP k i h).csV g.2), .forest g.1 [(g.2, .sl ((oneP k i h).ks.map Plan.cs))], .dead]) (fun g => g.2.oneCell' = true) (sx_sound (bl := [31]) T_tt _ _ _ ?_) (fun g hg => ?_)
  · simp (disch := omega) only [SX0, SX1, SX2, SX3, SX4, SX5, SX6, SX7, SX8, SU0, SY0, SY1, Nat.reduceAdd, Nat.reduceMul, Nat.reduceSub, Nat.reduceLeDiff, Nat.reduceEqDiff, Nat.reduceLT, Nat.reduceBEq, ↓reduceIte, Int.reduceLE, Int.reduceLT, Int.reduceToNat, Int.reduceNeg, reduceCtorEq, Int.reduceEq, SF0, SF1, SF2, DBtf0, DLa0, DCg0, DCe0, DCe1, DCe2, DDb0, DBc0, DBc1, DHa0, DHb0, DHb1, DDe0, DAlh0, DAlv0, DBtc0, DBtc1]
    refine br_dec (fun h1 => ?_) (fun h1 => ?_)
    · rw [if_pos h1] at hone
      simp (disch := omega) only [SX0, SX1, SX2, SX3, SX4, SX5, SX6, SX7, SX8, SU0, SY0, SY1, Nat.reduceAdd, Nat.reduceMul, Nat.reduceSub, Nat.reduceLeDiff, Nat.reduceEqDiff, Nat.reduceLT, Nat.reduceBEq, ↓reduceIte, Int.reduceLE, Int.reduceLT, Int.reduceToNat, Int.reduceNeg, reduceCtorEq, Int.reduceEq, SF0, SF1, SF2, DBtf0, DLa0, DCg0, DCe0, DCe1, DCe2, DDb0, DBc0, DBc1, DHa0, DHb0, DHb1, DDe0, DAlh0, DAlv0, DBtc0, DBtc1]
      refine cute fun c Q' H => ?_
      refine awp_closeC 3 4 4 5 2 rfl rfl rfl rfl (by simp) rfl fun S v hv => ?_
      refine awp_pushf (List.replicate 2 (.slice none 0 0, .sl [])) (fun w => forest_nils 2) ?_
      refine awp_graft (r := 4) (r2 := 5) 4 (es := [Plan.mk 1 0 i false [], wasteP].map Plan.cs) (kv := [.slice none 0 0, .slice none 0 0]) (v := v) (by decide) (by rw [rows_two]; rfl) (by rw [items_two]; rfl) rfl fun S2 => ?_
      refine awp_wk ?_ (H (S2, v) hv)
      rw [hone]
      (refine wk_le ?_ ?_ ?_; (focus (simp [W8, leTm, leAV, AV.under, underL, AS.kill, AS.push, AV.filt, OB.kill, Work.under, Plan.csV, Plan.op, Plan.at_, Plan.pa, Plan.tu, Plan.ks, hkf, hkg]; done)); (focus (simp [leL, OB.under, underL, AV.under, AS.kill, AS.push, AV.filt, OB.kill, Work.under, Plan.csV, Plan.op, Plan.at_, Plan.pa, Plan.tu, Plan.ks, hkf, hkg]; done)); (focus (simp; done)))
    · rw [if_neg h1] at hone
      simp (disch := omega) only [SX0, SX1, SX2, SX3, SX4, SX5, SX6, SX7, SX8, SU0, SY0, SY1, Nat.reduceAdd, Nat.reduceMul, Nat.reduceSub, Nat.reduceLeDiff, Nat.reduceEqDiff, Nat.reduceLT, Nat.reduceBEq, ↓reduceIte, Int.reduceLE, Int.reduceLT, Int.reduceToNat, Int.reduceNeg, reduceCtorEq, Int.reduceEq, SF0, SF1, SF2, DBtf0, DLa0, DCg0, DCe0, DCe1, DCe2, DDb0, DBc0, DBc1, DHa0, DHb0, DHb1, DDe0, DAlh0, DAlv0, DBtc0, DBtc1]
      refine cute fun c Q' H => ?_
      refine awp_pushf (List.replicate 1 (.slice none 0 0, .sl [])) (fun w => forest_nils 1) ?_
      refine awp_wk wk_noforest ?_
      refine awp_graft (r := 4) (r2 := 5) 4 (es := []) (kv := []) (v := .slice none 0 0) (by decide) rfl rfl rfl fun S2 => ?_
      refine awp_wk ?_ (H (S2, .slice none 0 0) rfl)
      rw [hone]
      (refine wk_le ?_ ?_ ?_; (focus (simp [W8, leTm, leAV, AV.under, underL, AS.kill, AS.push, AV.filt, OB.kill, Work.under, Plan.csV, Plan.op, Plan.at_, Plan.pa, Plan.tu, Plan.ks, hkf, hkg]; done)); (focus (simp [leL, OB.under, underL, AV.under, AS.kill, AS.push, AV.filt, OB.kill, Work.under, Plan.csV, Plan.op, Plan.at_, Plan.pa, Plan.tu, Plan.ks, hkf, hkg]; done)); (focus (simp; done)))
  obtain ⟨S, v⟩ := g
  simp only at hg
  generalize oneP k i h = x at *
  refine awp_seqD (sx_sound (bl := []) T_tt _ _ _ ?_)
  simp (disch := omega) only [SX0, SX1, SX2, SX3, SX4, SX5, SX6, SX7, SX8, SU0, SY0, SY1, Nat.reduceAdd, Nat.reduceMul, Nat.reduceSub, Nat.reduceLeDiff, Nat.reduceEqDiff, Nat.reduceLT, Nat.reduceBEq, ↓reduceIte, Int.reduceLE, Int.reduceLT, Int.reduceToNat, Int.reduceNeg, reduceCtorEq, Int.reduceEq, SF0, SF1, SF2, DBtf0, DLa0, DCg0, DCe0, DCe1, DCe2, DDb0, DBc0, DBc1, DHa0, DHb0, DHb1, DDe0, DAlh0, DAlv0, DBtc0, DBtc1, SX0, Plan.csV, Pane.cs]
  refine br_dec (fun h2 => ?_) (fun h2 => ?_)
  · rw [if_pos h2]
    simp (disch := omega) only [SX0, SX1, SX2, SX3, SX4, SX5, SX6, SX7, SX8, SU0, SY0, SY1, Nat.reduceAdd, Nat.reduceMul, Nat.reduceSub, Nat.reduceLeDiff, Nat.reduceEqDiff, Nat.reduceLT, Nat.reduceBEq, ↓reduceIte, Int.reduceLE, Int.reduceLT, Int.reduceToNat, Int.reduceNeg, reduceCtorEq, Int.reduceEq, SF0, SF1, SF2, DBtf0, DLa0, DCg0, DCe0, DCe1, DCe2, DDb0, DBc0, DBc1, DHa0, DHb0, DHb1, DDe0, DAlh0, DAlv0, DBtc0, DBtc1, SX0, hg, if_true, Bool.true_and]
    exact fin_ks [4] (.agg (x.csV v)) [.forest S [(v, .sl (x.ks.map Plan.cs))]] ⟨S, v, hg, rfl, rfl⟩ rfl ⟨rfl, trivial⟩ (by simp) (by simp) (by simp)
  rw [if_neg h2]
  simp (disch := omega) only [SX0, SX1, SX2, SX3, SX4, SX5, SX6, SX7, SX8, SU0, SY0, SY1, Nat.reduceAdd, Nat.reduceMul, Nat.reduceSub, Nat.reduceLeDiff, Nat.reduceEqDiff, Nat.reduceLT, Nat.reduceBEq, ↓reduceIte, Int.reduceLE, Int.reduceLT, Int.reduceToNat, Int.reduceNeg, reduceCtorEq, Int.reduceEq, SF0, SF1, SF2, DBtf0, DLa0, DCg0, DCe0, DCe1, DCe2, DDb0, DBc0, DBc1, DHa0, DHb0, DHb1, DDe0, DAlh0, DAlv0, DBtc0, DBtc1, SX0]
  refine athen_m (awp_seqD (sx_sound (bl := []) T_tt _ _ _ ?_))
  simp (disch := omega) only [SX0, SX1, SX2, SX3, SX4, SX5, SX6, SX7, SX8, SU0, SY0, SY1, Nat.reduceAdd, Nat.reduceMul, Nat.reduceSub, Nat.reduceLeDiff, Nat.reduceEqDiff, Nat.reduceLT, Nat.reduceBEq, ↓reduceIte, Int.reduceLE, Int.reduceLT, Int.reduceToNat, Int.reduceNeg, reduceCtorEq, Int.reduceEq, SF0, SF1, SF2, DBtf0, DLa0, DCg0, DCe0, DCe1, DCe2, DDb0, DBc0, DBc1, DHa0, DHb0, DHb1, DDe0, DAlh0, DAlv0, DBtc0, DBtc1, SX0]
  refine athen_m ?_
  refine awp_cutE (G := (Nat → Prop) × Value) 12 45 (fun _ => []) (fun g => [.cells k.cs, .cells [.val (.int .i64 0), .val (.int .i64 0), .val (.int .i64 0), .val (.bool false), .val (.slice none 0 0)], .cells [.val (.int .i64 q.W), .val (.int .i64 q.H), .val (.bool q.Tu), .val (.int .i64 q.Ki)], .cells (x.csV v), .forest S [(v, .sl (x.ks.map Plan.cs))], .dead, .cells ((rowP k r (w - q.W) h).csV g.2), .forest g.1 [(g.2, .sl ((rowP k r (w - q.W) h).ks.map Plan.cs))]]) (fun g => g.2.oneCell' = true) (sx_sound (bl := []) T_tt _ _ _ ?_) (fun g hg2 => ?_)
  · simp (disch := omega) only [SX0, SX1, SX2, SX3, SX4, SX5, SX6, SX7, SX8, SU0, SY0, SY1, Nat.reduceAdd, Nat.reduceMul, Nat.reduceSub, Nat.reduceLeDiff, Nat.reduceEqDiff, Nat.reduceLT, Nat.reduceBEq, ↓reduceIte, Int.reduceLE, Int.reduceLT, Int.reduceToNat, Int.reduceNeg, reduceCtorEq, Int.reduceEq, SF0, SF1, SF2, DBtf0, DLa0, DCg0, DCe0, DCe1, DCe2, DDb0, DBc0, DBc1, DHa0, DHb0, DHb1, DDe0, DAlh0, DAlv0, DBtc0, DBtc1, SX0]
    refine br_dec (fun h3 => ?_) (fun h3 => ?_)
    · have hr0 : r ≠ [] := fun h => by subst h; simp only [List.length_nil] at h3; omega
      simp (disch := omega) only [SX0, SX1, SX2, SX3, SX4, SX5, SX6, SX7, SX8, SU0, SY0, SY1, Nat.reduceAdd, Nat.reduceMul, Nat.reduceSub, Nat.reduceLeDiff, Nat.reduceEqDiff, Nat.reduceLT, Nat.reduceBEq, ↓reduceIte, Int.reduceLE, Int.reduceLT, Int.reduceToNat, Int.reduceNeg, reduceCtorEq, Int.reduceEq, SF0, SF1, SF2, DBtf0, DLa0, DCg0, DCe0, DCe1, DCe2, DDb0, DBc0, DBc1, DHa0, DHb0, DHb1, DDe0, DAlh0, DAlv0, DBtc0, DBtc1, SX0]
      refine awp_draw (bl := []) T_tt mixed 8 (by decide) (by kernel_rfl) (.inr ⟨by kernel_rfl, by kernel_rfl⟩) (by kernel_rfl) ?_
      have htt : List.take r.length (List.map (fun x => [AV.val (.int .i64 x)]) r) = List.map (fun x => [AV.val (.int .i64 x)]) r := List.take_of_length_le (by simp)
      repeat' first | simp (disch := omega) only [SX0, SX1, SX2, SX3, SX4, SX5, SX6, SX7, SX8, SU0, SY0, SY1, Nat.reduceAdd, Nat.reduceMul, Nat.reduceSub, Nat.reduceLeDiff, Nat.reduceEqDiff, Nat.reduceLT, Nat.reduceBEq, ↓reduceIte, Int.reduceLE, Int.reduceLT, Int.reduceToNat, Int.reduceNeg, reduceCtorEq, Int.reduceEq, SF0, SF1, SF2, DBtf0, DLa0, DCg0, DCe0, DCe1, DCe2, DDb0, DBc0, DBc1, DHa0, DHb0, DHb1, DDe0, DAlh0, DAlv0, DBtc0, DBtc1, SX0, List.drop_succ_cons, List.drop_zero, Pane.cs, htt] | refine req (by omega) ?_ | refine req ⟨Nat.le_refl _, fun c hc => by rw [← hc]; rfl⟩ ?_ | fail
      refine acall_own (ih (w - q.W) hr0 (fun j hj => hi j (by simp [hj])) (by omega) (by omega) (by omega)) [] [] (by simp only [SX0, SX1, SX2, SX3, SX4, SX5, SX6, SX7, SX8, SU0, SY0, SY1, Nat.reduceAdd, Nat.reduceMul, Nat.reduceSub, Nat.reduceLeDiff, Nat.reduceEqDiff, Nat.reduceLT, Nat.reduceBEq, ↓reduceIte, Int.reduceLE, Int.reduceLT, Int.reduceToNat, Int.reduceNeg, reduceCtorEq, Int.reduceEq, SF0, SF1, SF2, DBtf0, DLa0, DCg0, DCe0, DCe1, DCe2, DDb0, DBc0, DBc1, DHa0, DHb0, DHb1, DDe0, DAlh0, DAlv0, DBtc0, DBtc1, SX0]) (by decide) (by decide) (by rfl) (by simp only [SX0, SX1, SX2, SX3, SX4, SX5, SX6, SX7, SX8, SU0, SY0, SY1, Nat.reduceAdd, Nat.reduceMul, Nat.reduceSub, Nat.reduceLeDiff, Nat.reduceEqDiff, Nat.reduceLT, Nat.reduceBEq, ↓reduceIte, Int.reduceLE, Int.reduceLT, Int.reduceToNat, Int.reduceNeg, reduceCtorEq, Int.reduceEq, SF0, SF1, SF2, DBtf0, DLa0, DCg0, DCe0, DCe1, DCe2, DDb0, DBc0, DBc1, DHa0, DHb0, DHb1, DDe0, DAlh0, DAlv0, DBtc0, DBtc1, SX0]) ?_
      rintro _ _ ⟨S2, v2, hv2, rfl, rfl⟩
      simp (disch := omega) only [SX0, SX1, SX2, SX3, SX4, SX5, SX6, SX7, SX8, SU0, SY0, SY1, Nat.reduceAdd, Nat.reduceMul, Nat.reduceSub, Nat.reduceLeDiff, Nat.reduceEqDiff, Nat.reduceLT, Nat.reduceBEq, ↓reduceIte, Int.reduceLE, Int.reduceLT, Int.reduceToNat, Int.reduceNeg, reduceCtorEq, Int.reduceEq, SF0, SF1, SF2, DBtf0, DLa0, DCg0, DCe0, DCe1, DCe2, DDb0, DBc0, DBc1, DHa0, DHb0, DHb1, DDe0, DAlh0, DAlv0, DBtc0, DBtc1, SX0, hv2, if_true, Plan.csV]
      refine cute fun c Q' H => awp_wk ?_ (H (S2, v2) hv2)
      (refine wk_le ?_ ?_ ?_; (focus (simp [W8, leTm, leAV, AV.under, underL, Work.under, Plan.csV]; done)); (focus (simp [leL, OB.under, underL, AV.under, Work.under, Plan.csV]; done)); (focus (simp; done)))
    · have er : r = [] := by cases r with
        | nil => rfl
        | cons a b => simp only [List.length_cons] at h3; omega
      simp (disch := omega) only [SX0, SX1, SX2, SX3, SX4, SX5, SX6, SX7, SX8, SU0, SY0, SY1, Nat.reduceAdd, Nat.reduceMul, Nat.reduceSub, Nat.reduceLeDiff, Nat.reduceEqDiff, Nat.reduceLT, Nat.reduceBEq, ↓reduceIte, Int.reduceLE, Int.reduceLT, Int.reduceToNat, Int.reduceNeg, reduceCtorEq, Int.reduceEq, SF0, SF1, SF2, DBtf0, DLa0, DCg0, DCe0, DCe1, DCe2, DDb0, DBc0, DBc1, DHa0, DHb0, DHb1, DDe0, DAlh0, DAlv0, DBtc0, DBtc1, SX0]
      refine cute fun c Q' H => ?_
      refine awp_pushf (List.replicate 1 (.slice none 0 0, .sl [])) (fun w => forest_nils 1) ?_
      refine awp_wk ?_ (H (fun _ => False, .slice none 0 0) rfl)
      have ep : rowP k r (w - q.W) h = wasteP := by rw [er, rowP]
      rw [ep]
      (refine wk_le ?_ ?_ ?_; (focus (simp [W8, leTm, leAV, AV.under, underL, AS.push, Work.under, Plan.csV, Plan.op, Plan.at_, Plan.pa, Plan.tu, Plan.ks, wasteP]; done)); (focus (simp [leL, OB.under, underL, AV.under, AS.push, Work.under, Plan.csV, Plan.op, Plan.at_, Plan.pa, Plan.tu, Plan.ks, wasteP]; done)); (focus (simp; done)))
  obtain ⟨S2, v2⟩ := g
  simp only at hg2
  generalize rowP k r (w - q.W) h = y at *
  refine sx_sound (bl := [55]) T_tt _ _ _ ?_
  simp (disch := omega) only [SX0, SX1, SX2, SX3, SX4, SX5, SX6, SX7, SX8, SU0, SY0, SY1, Nat.reduceAdd, Nat.reduceMul, Nat.reduceSub, Nat.reduceLeDiff, Nat.reduceEqDiff, Nat.reduceLT, Nat.reduceBEq, ↓reduceIte, Int.reduceLE, Int.reduceLT, Int.reduceToNat, Int.reduceNeg, reduceCtorEq, Int.reduceEq, SF0, SF1, SF2, DBtf0, DLa0, DCg0, DCe0, DCe1, DCe2, DDb0, DBc0, DBc1, DHa0, DHb0, DHb1, DDe0, DAlh0, DAlv0, DBtc0, DBtc1, SX0, Plan.csV, hg, hg2]
  exact fin_two (r := 8) (rx := 4) (ry := 7) (x := x) (y := y) (by decide) (by decide) (by decide) rfl rfl rfl fun S v hv => ⟨S, v, hv, rfl, rfl⟩

theorem e_sheetPlanF : Enters Try.prog 81 := enters_of Try.func81 (by kernel_rfl) (by kernel_rfl)
set_option maxRecDepth 16000 in
set_option maxHeartbeats 8000000 in
theorem sheetPlan_f (k : Work) (hk : plainW k) : ∀ (rows : List (List Int)) (h : Int), rows ≠ [] → (∀ r ∈ rows, r ≠ [] ∧ r.length ≤ 1000 ∧ ∀ i ∈ r, 0 ≤ i ∧ i < (k.Ps.length : Int)) → -1000000 + 200 * rows.length ≤ h → h ≤ 200 → rows.length ≤ 1000 → ACalls Try.prog 81 [.agg k.cs, sheetV rows, .val (.int .i64 h)] [] [] (TreeR (sheetP k rows h)) := by
  intro rows
  induction rows with
  | nil => intro h h0; exact absurd rfl h0
  | cons r rows ih =>
  intro h _ hr hh1 hh2 hrl
  obtain ⟨hr0, hrl0, hri⟩ := hr r (by simp)
  cases r with
  | nil => exact absurd rfl hr0
  | cons i r =>
  have him := hri i (by simp)
  have gi := paneA_get him
  obtain ⟨pi1, pi2, _⟩ := hk.pane him
  have hi0 : (0 ≤ i) = True := eq_true him.1
  have hkw := hk.1
  unfold Work.ok at hkw
  simp only [List.length_cons] at hh1 hrl hrl0
  have hsp : sheetP k ((i :: r) :: rows) h = if (paneA k i).H = h then rowP k (i :: r) k.W (paneA k i).H else .mk 3 (paneA k i).H 0 false [rowP k (i :: r) k.W (paneA k i).H, sheetP k rows (h - (paneA k i).H)] := by rw [sheetP]
  have RP := rowPlan_f k hk (paneA k i).H (i :: r) k.W (by simp) hri (by simp only [List.length_cons]; omega) (by omega) (by simp only [List.length_cons]; omega)
  simp only [ints, List.map_cons] at RP
  rw [hsp]
  generalize hrp : rowP k (i :: r) k.W (paneA k i).H = rp at *
  generalize hq : paneA k i = q at *
  simp only [sheetV, rowV, List.map_cons, ints]
  refine acalls_tm T_tt Try.func81 rfl e_sheetPlanF 45 rfl (W8 _ _ _ .any .any .any .any .any (W8 .any .any .any .any .any .any .any .any (W8 .any .any .any .any .any .any .any .any (W8 .any .any .any .any .any .any .any .any (W8 .any .any .any .any .any .any .any .any (W8 .any .any .any .any .any .any .any .any [])))))) rfl (rv := [.cell 6 31]) rfl ?_
  refine awp_seqD (sx_sound (bl := []) T_tt _ _ _ ?_)
  simp (disch := omega) only [SX0, SX1, SX2, SX3, SX4, SX5, SX6, SX7, SX8, SU0, SY0, SY1, Nat.reduceAdd, Nat.reduceMul, Nat.reduceSub, Nat.reduceLeDiff, Nat.reduceEqDiff, Nat.reduceLT, Nat.reduceBEq, ↓reduceIte, Int.reduceLE, Int.reduceLT, Int.reduceToNat, Int.reduceNeg, reduceCtorEq, Int.reduceEq, SF0, SF1, SF2, DBtf0, DLa0, DCg0, DCe0, DCe1, DCe2, DDb0, DBc0, DBc1, DHa0, DHb0, DHb1, DDe0, DAlh0, DAlv0, DBtc0, DBtc1]
  refine athen_m (awp_seqD ?_)
  refine awp_drawA T_tt mixed (by decide +kernel) (by kernel_rfl) (by kernel_rfl) ?_
  repeat' first | simp (disch := omega) only [SX0, SX1, SX2, SX3, SX4, SX5, SX6, SX7, SX8, SU0, SY0, SY1, Nat.reduceAdd, Nat.reduceMul, Nat.reduceSub, Nat.reduceLeDiff, Nat.reduceEqDiff, Nat.reduceLT, Nat.reduceBEq, ↓reduceIte, Int.reduceLE, Int.reduceLT, Int.reduceToNat, Int.reduceNeg, reduceCtorEq, Int.reduceEq, SF0, SF1, SF2, DBtf0, DLa0, DCg0, DCe0, DCe1, DCe2, DDb0, DBc0, DBc1, DHa0, DHb0, DHb1, DDe0, DAlh0, DAlv0, DBtc0, DBtc1, gi, hi0, Pane.cs, List.map_cons, List.getElem?_cons_zero] | refine req (by omega) ?_ | fail
  refine athen_m (awp_seqD ?_)
  refine awp_floatG (bl := []) T_tt mixed [0, 1] [0, 1, 2, 3, 4, 5, 6] [0, 1, 2, 3, 4, 5, 6] [⟨7, [0, 1], [(0, .f 20), (1, .f 21), (2, .f 22), (3, .f 23), (4, .f 24), (5, .f 25), (6, .f 26)], [], []⟩, ⟨9, [0, 1], [(8, .a 8 31)], [], []⟩] [] (by kernel_rfl) (by kernel_rfl) ?_
  repeat' first | simp (disch := omega) only [SX0, SX1, SX2, SX3, SX4, SX5, SX6, SX7, SX8, SU0, SY0, SY1, Nat.reduceAdd, Nat.reduceMul, Nat.reduceSub, Nat.reduceLeDiff, Nat.reduceEqDiff, Nat.reduceLT, Nat.reduceBEq, ↓reduceIte, Int.reduceLE, Int.reduceLT, Int.reduceToNat, Int.reduceNeg, reduceCtorEq, Int.reduceEq, SF0, SF1, SF2, DBtf0, DLa0, DCg0, DCe0, DCe1, DCe2, DDb0, DBc0, DBc1, DHa0, DHb0, DHb1, DDe0, DAlh0, DAlv0, DBtc0, DBtc1, gi, hi0, Pane.cs, List.map_cons, List.getElem?_cons_zero] | refine req (by omega) ?_ | fail
  refine acall_own RP [] [] (by simp only [SX0, SX1, SX2, SX3, SX4, SX5, SX6, SX7, SX8, SU0, SY0, SY1, Nat.reduceAdd, Nat.reduceMul, Nat.reduceSub, Nat.reduceLeDiff, Nat.reduceEqDiff, Nat.reduceLT, Nat.reduceBEq, ↓reduceIte, Int.reduceLE, Int.reduceLT, Int.reduceToNat, Int.reduceNeg, reduceCtorEq, Int.reduceEq, SF0, SF1, SF2, DBtf0, DLa0, DCg0, DCe0, DCe1, DCe2, DDb0, DBc0, DBc1, DHa0, DHb0, DHb1, DDe0, DAlh0, DAlv0, DBtc0, DBtc1, SX0]) (by decide) (by decide) (by rfl) (by simp only [SX0, SX1, SX2, SX3, SX4, SX5, SX6, SX7, SX8, SU0, SY0, SY1, Nat.reduceAdd, Nat.reduceMul, Nat.reduceSub, Nat.reduceLeDiff, Nat.reduceEqDiff, Nat.reduceLT, Nat.reduceBEq, ↓reduceIte, Int.reduceLE, Int.reduceLT, Int.reduceToNat, Int.reduceNeg, reduceCtorEq, Int.reduceEq, SF0, SF1, SF2, DBtf0, DLa0, DCg0, DCe0, DCe1, DCe2, DDb0, DBc0, DBc1, DHa0, DHb0, DHb1, DDe0, DAlh0, DAlv0, DBtc0, DBtc1, SX0]) ?_
  rintro _ _ ⟨S, v, hg, rfl, rfl⟩
  simp (disch := omega) only [SX0, SX1, SX2, SX3, SX4, SX5, SX6, SX7, SX8, SU0, SY0, SY1, Nat.reduceAdd, Nat.reduceMul, Nat.reduceSub, Nat.reduceLeDiff, Nat.reduceEqDiff, Nat.reduceLT, Nat.reduceBEq, ↓reduceIte, Int.reduceLE, Int.reduceLT, Int.reduceToNat, Int.reduceNeg, reduceCtorEq, Int.reduceEq, SF0, SF1, SF2, DBtf0, DLa0, DCg0, DCe0, DCe1, DCe2, DDb0, DBc0, DBc1, DHa0, DHb0, DHb1, DDe0, DAlh0, DAlv0, DBtc0, DBtc1, SX0, hg, if_true, Plan.csV]
  refine athen_m (awp_seqD (sx_sound (bl := []) T_tt _ _ _ ?_))
  simp (disch := omega) only [SX0, SX1, SX2, SX3, SX4, SX5, SX6, SX7, SX8, SU0, SY0, SY1, Nat.reduceAdd, Nat.reduceMul, Nat.reduceSub, Nat.reduceLeDiff, Nat.reduceEqDiff, Nat.reduceLT, Nat.reduceBEq, ↓reduceIte, Int.reduceLE, Int.reduceLT, Int.reduceToNat, Int.reduceNeg, reduceCtorEq, Int.reduceEq, SF0, SF1, SF2, DBtf0, DLa0, DCg0, DCe0, DCe1, DCe2, DDb0, DBc0, DBc1, DHa0, DHb0, DHb1, DDe0, DAlh0, DAlv0, DBtc0, DBtc1, SX0]
  refine br_dec (fun h2 => ?_) (fun h2 => ?_)
  · rw [if_pos h2]
    simp (disch := omega) only [SX0, SX1, SX2, SX3, SX4, SX5, SX6, SX7, SX8, SU0, SY0, SY1, Nat.reduceAdd, Nat.reduceMul, Nat.reduceSub, Nat.reduceLeDiff, Nat.reduceEqDiff, Nat.reduceLT, Nat.reduceBEq, ↓reduceIte, Int.reduceLE, Int.reduceLT, Int.reduceToNat, Int.reduceNeg, reduceCtorEq, Int.reduceEq, SF0, SF1, SF2, DBtf0, DLa0, DCg0, DCe0, DCe1, DCe2, DDb0, DBc0, DBc1, DHa0, DHb0, DHb1, DDe0, DAlh0, DAlv0, DBtc0, DBtc1, SX0, hg, if_true, Bool.true_and]
    exact fin_ks [2] (.agg (rp.csV v)) [.forest S [(v, .sl (rp.ks.map Plan.cs))]] ⟨S, v, hg, rfl, rfl⟩ rfl ⟨rfl, trivial⟩ (by simp) (by simp) (by simp)
  rw [if_neg h2]
  simp (disch := omega) only [SX0, SX1, SX2, SX3, SX4, SX5, SX6, SX7, SX8, SU0, SY0, SY1, Nat.reduceAdd, Nat.reduceMul, Nat.reduceSub, Nat.reduceLeDiff, Nat.reduceEqDiff, Nat.reduceLT, Nat.reduceBEq, ↓reduceIte, Int.reduceLE, Int.reduceLT, Int.reduceToNat, Int.reduceNeg, reduceCtorEq, Int.reduceEq, SF0, SF1, SF2, DBtf0, DLa0, DCg0, DCe0, DCe1, DCe2, DDb0, DBc0, DBc1, DHa0, DHb0, DHb1, DDe0, DAlh0, DAlv0, DBtc0, DBtc1, SX0]
  refine athen_m (awp_seqD (sx_sound (bl := []) T_tt _ _ _ ?_))
  simp (disch := omega) only [SX0, SX1, SX2, SX3, SX4, SX5, SX6, SX7, SX8, SU0, SY0, SY1, Nat.reduceAdd, Nat.reduceMul, Nat.reduceSub, Nat.reduceLeDiff, Nat.reduceEqDiff, Nat.reduceLT, Nat.reduceBEq, ↓reduceIte, Int.reduceLE, Int.reduceLT, Int.reduceToNat, Int.reduceNeg, reduceCtorEq, Int.reduceEq, SF0, SF1, SF2, DBtf0, DLa0, DCg0, DCe0, DCe1, DCe2, DDb0, DBc0, DBc1, DHa0, DHb0, DHb1, DDe0, DAlh0, DAlv0, DBtc0, DBtc1, SX0]
  refine athen_m ?_
  refine awp_cutE (G := (Nat → Prop) × Value) 10 38 (fun _ => []) (fun g => [.cells k.cs, .cells [.val (.int .i64 0), .val (.int .i64 0), .val (.int .i64 0), .val (.bool false), .val (.slice none 0 0)], .forest S [(v, .sl (rp.ks.map Plan.cs))], .cells (rp.csV v), .cells ((sheetP k rows (h - q.H)).csV g.2), .forest g.1 [(g.2, .sl ((sheetP k rows (h - q.H)).ks.map Plan.cs))]]) (fun g => g.2.oneCell' = true) (sx_sound (bl := []) T_tt _ _ _ ?_) (fun g hg2 => ?_)
  · simp (disch := omega) only [SX0, SX1, SX2, SX3, SX4, SX5, SX6, SX7, SX8, SU0, SY0, SY1, Nat.reduceAdd, Nat.reduceMul, Nat.reduceSub, Nat.reduceLeDiff, Nat.reduceEqDiff, Nat.reduceLT, Nat.reduceBEq, ↓reduceIte, Int.reduceLE, Int.reduceLT, Int.reduceToNat, Int.reduceNeg, reduceCtorEq, Int.reduceEq, SF0, SF1, SF2, DBtf0, DLa0, DCg0, DCe0, DCe1, DCe2, DDb0, DBc0, DBc1, DHa0, DHb0, DHb1, DDe0, DAlh0, DAlv0, DBtc0, DBtc1, SX0]
    refine br_dec (fun h3 => ?_) (fun h3 => ?_)
    · have hr0 : rows ≠ [] := fun h => by subst h; simp only [List.length_nil] at h3; omega
      simp (disch := omega) only [SX0, SX1, SX2, SX3, SX4, SX5, SX6, SX7, SX8, SU0, SY0, SY1, Nat.reduceAdd, Nat.reduceMul, Nat.reduceSub, Nat.reduceLeDiff, Nat.reduceEqDiff, Nat.reduceLT, Nat.reduceBEq, ↓reduceIte, Int.reduceLE, Int.reduceLT, Int.reduceToNat, Int.reduceNeg, reduceCtorEq, Int.reduceEq, SF0, SF1, SF2, DBtf0, DLa0, DCg0, DCe0, DCe1, DCe2, DDb0, DBc0, DBc1, DHa0, DHb0, DHb1, DDe0, DAlh0, DAlv0, DBtc0, DBtc1, SX0]
      refine awp_draw (bl := []) T_tt mixed 6 (by decide) (by kernel_rfl) (.inr ⟨by kernel_rfl, by kernel_rfl⟩) (by kernel_rfl) ?_
      have htt : List.take rows.length (List.map (fun r => [AV.sl (List.map (fun x => [AV.val (.int .i64 x)]) r)]) rows) = List.map (fun r => [AV.sl (List.map (fun x => [AV.val (.int .i64 x)]) r)]) rows := List.take_of_length_le (by simp)
      repeat' first | simp (disch := omega) only [SX0, SX1, SX2, SX3, SX4, SX5, SX6, SX7, SX8, SU0, SY0, SY1, Nat.reduceAdd, Nat.reduceMul, Nat.reduceSub, Nat.reduceLeDiff, Nat.reduceEqDiff, Nat.reduceLT, Nat.reduceBEq, ↓reduceIte, Int.reduceLE, Int.reduceLT, Int.reduceToNat, Int.reduceNeg, reduceCtorEq, Int.reduceEq, SF0, SF1, SF2, DBtf0, DLa0, DCg0, DCe0, DCe1, DCe2, DDb0, DBc0, DBc1, DHa0, DHb0, DHb1, DDe0, DAlh0, DAlv0, DBtc0, DBtc1, SX0, List.drop_succ_cons, List.drop_zero, Pane.cs, htt] | refine req (by omega) ?_ | refine req ⟨Nat.le_refl _, fun c hc => by rw [← hc]; rfl⟩ ?_ | fail
      have IH := ih (h - q.H) hr0 (fun j hj => hr j (by simp [hj])) (by omega) (by omega) (by omega)
      simp only [sheetV, rowV, ints] at IH
      refine acall_own IH [] [] (by simp only [SX0, SX1, SX2, SX3, SX4, SX5, SX6, SX7, SX8, SU0, SY0, SY1, Nat.reduceAdd, Nat.reduceMul, Nat.reduceSub, Nat.reduceLeDiff, Nat.reduceEqDiff, Nat.reduceLT, Nat.reduceBEq, ↓reduceIte, Int.reduceLE, Int.reduceLT, Int.reduceToNat, Int.reduceNeg, reduceCtorEq, Int.reduceEq, SF0, SF1, SF2, DBtf0, DLa0, DCg0, DCe0, DCe1, DCe2, DDb0, DBc0, DBc1, DHa0, DHb0, DHb1, DDe0, DAlh0, DAlv0, DBtc0, DBtc1, SX0]) (by decide) (by decide) (by rfl) (by simp only [SX0, SX1, SX2, SX3, SX4, SX5, SX6, SX7, SX8, SU0, SY0, SY1, Nat.reduceAdd, Nat.reduceMul, Nat.reduceSub, Nat.reduceLeDiff, Nat.reduceEqDiff, Nat.reduceLT, Nat.reduceBEq, ↓reduceIte, Int.reduceLE, Int.reduceLT, Int.reduceToNat, Int.reduceNeg, reduceCtorEq, Int.reduceEq, SF0, SF1, SF2, DBtf0, DLa0, DCg0, DCe0, DCe1, DCe2, DDb0, DBc0, DBc1, DHa0, DHb0, DHb1, DDe0, DAlh0, DAlv0, DBtc0, DBtc1, SX0]) ?_
      rintro _ _ ⟨S2, v2, hv2, rfl, rfl⟩
      simp (disch := omega) only [SX0, SX1, SX2, SX3, SX4, SX5, SX6, SX7, SX8, SU0, SY0, SY1, Nat.reduceAdd, Nat.reduceMul, Nat.reduceSub, Nat.reduceLeDiff, Nat.reduceEqDiff, Nat.reduceLT, Nat.reduceBEq, ↓reduceIte, Int.reduceLE, Int.reduceLT, Int.reduceToNat, Int.reduceNeg, reduceCtorEq, Int.reduceEq, SF0, SF1, SF2, DBtf0, DLa0, DCg0, DCe0, DCe1, DCe2, DDb0, DBc0, DBc1, DHa0, DHb0, DHb1, DDe0, DAlh0, DAlv0, DBtc0, DBtc1, SX0, hv2, if_true, Plan.csV]
      refine cute fun c Q' H => awp_wk ?_ (H (S2, v2) hv2)
      (refine wk_le ?_ ?_ ?_; (focus (simp [W8, leTm, leAV, AV.under, underL, Work.under, Plan.csV]; done)); (focus (simp [leL, OB.under, underL, AV.under, Work.under, Plan.csV]; done)); (focus (simp; done)))
    · have er : rows = [] := by cases rows with
        | nil => rfl
        | cons a b => simp only [List.length_cons] at h3; omega
      simp (disch := omega) only [SX0, SX1, SX2, SX3, SX4, SX5, SX6, SX7, SX8, SU0, SY0, SY1, Nat.reduceAdd, Nat.reduceMul, Nat.reduceSub, Nat.reduceLeDiff, Nat.reduceEqDiff, Nat.reduceLT, Nat.reduceBEq, ↓reduceIte, Int.reduceLE, Int.reduceLT, Int.reduceToNat, Int.reduceNeg, reduceCtorEq, Int.reduceEq, SF0, SF1, SF2, DBtf0, DLa0, DCg0, DCe0, DCe1, DCe2, DDb0, DBc0, DBc1, DHa0, DHb0, DHb1, DDe0, DAlh0, DAlv0, DBtc0, DBtc1, SX0]
      refine cute fun c Q' H => ?_
      refine awp_pushf (List.replicate 1 (.slice none 0 0, .sl [])) (fun w => forest_nils 1) ?_
      refine awp_wk ?_ (H (fun _ => False, .slice none 0 0) rfl)
      have ep : sheetP k rows (h - q.H) = wasteP := by rw [er, sheetP]
      rw [ep]
      (refine wk_le ?_ ?_ ?_; (focus (simp [W8, leTm, leAV, AV.under, underL, AS.push, Work.under, Plan.csV, Plan.op, Plan.at_, Plan.pa, Plan.tu, Plan.ks, wasteP]; done)); (focus (simp [leL, OB.under, underL, AV.under, AS.push, Work.under, Plan.csV, Plan.op, Plan.at_, Plan.pa, Plan.tu, Plan.ks, wasteP]; done)); (focus (simp; done)))
  obtain ⟨S2, v2⟩ := g
  simp only at hg2
  generalize sheetP k rows (h - q.H) = y at *
  refine sx_sound (bl := [46]) T_tt _ _ _ ?_
  simp (disch := omega) only [SX0, SX1, SX2, SX3, SX4, SX5, SX6, SX7, SX8, SU0, SY0, SY1, Nat.reduceAdd, Nat.reduceMul, Nat.reduceSub, Nat.reduceLeDiff, Nat.reduceEqDiff, Nat.reduceLT, Nat.reduceBEq, ↓reduceIte, Int.reduceLE, Int.reduceLT, Int.reduceToNat, Int.reduceNeg, reduceCtorEq, Int.reduceEq, SF0, SF1, SF2, DBtf0, DLa0, DCg0, DCe0, DCe1, DCe2, DDb0, DBc0, DBc1, DHa0, DHb0, DHb1, DDe0, DAlh0, DAlv0, DBtc0, DBtc1, SX0, Plan.csV, hg, hg2]
  exact fin_two (r := 6) (rx := 2) (ry := 5) (x := rp) (y := y) (by decide) (by decide) (by decide) rfl rfl rfl fun S v hv => ⟨S, v, hv, rfl, rfl⟩

/-- Plans with memory of their own. -/
def TreeL (l : List Plan) (r : AV) (L : List OB) : Prop := ∃ S v, v.oneCell' = true ∧ r = .val v ∧ L = [.forest S [(v, .sl (l.map Plan.cs))]]
theorem zipSnoc {α β γ : Type} (f : α → β → γ) : ∀ {es : List α} {kv : List β}, kv.length = es.length → ∀ e v, List.zipWith f (es ++ [e]) (kv ++ [v]) = List.zipWith f es kv ++ [f e v]
  | [], [], _, e, v => rfl
  | a :: es, b :: kv, h, e, v => by
    have := zipSnoc f (es := es) (kv := kv) (by simpa using h) e v
    simpa using this
  | [], _ :: _, h, _, _ => by simp at h
  | _ :: _, [], h, _, _ => by simp at h
theorem rowsK_snocP {es : List (List AV)} {kv : List Value} (h : kv.length = es.length) (q : Plan) (v : Value) : rowsK 4 (es ++ [q.cs]) (kv ++ [v]) = rowsK 4 es kv ++ [q.csV v] := by
  unfold rowsK; rw [zipSnoc _ h, Plan.set4]
theorem itemsK_snocP {es : List (List AV)} {kv : List Value} (h : kv.length = es.length) (q : Plan) (v : Value) : itemsK 4 (es ++ [q.cs]) (kv ++ [v]) = itemsK 4 es kv ++ [(v, .sl (q.ks.map Plan.cs))] := by
  unfold itemsK; rw [zipSnoc _ h, Plan.get4]

theorem e_shelfPlansF : Enters Try.prog 31 := enters_of Try.func31 (by kernel_rfl) (by kernel_rfl)
set_option maxRecDepth 8000 in
set_option maxHeartbeats 2000000 in
theorem shelfPlans_f (k : Work) (o : List Int) (hp : plainW k) (ho : OrdS k o) : ACalls Try.prog 31 [.agg k.cs] [] [] (TreeL (shelfPlansP k o)) := by
  have hkw := hp.1
  unfold Work.ok at hkw
  have S := shelvesI_c k o hp ho (by omega)
  have hall := (shRun_all hp ho).2
  have hlen := sheets_len hall
  rw [(shRun_all hp ho).1, ho.len] at hlen
  unfold shelfPlansP
  generalize (shRun k o).all = t at *
  refine acalls_tm T_tt Try.func31 rfl e_shelfPlansF 25 rfl (W8 _ .any .any .any .any .any .any .any (W8 .any .any .any .any .any .any .any .any (W8 .any .any .any .any .any .any .any .any [.any, .any]))) rfl (rv := [.tmp 2]) rfl (sx_sound (bl := []) T_tt _ _ _ ?_)
  simp (disch := omega) only [SX0, SX1, SX2, SX3, SX4, SX5, SX6, SX7, SX8, SU0, SY0, SY1, Nat.reduceAdd, Nat.reduceMul, Nat.reduceSub, Nat.reduceLeDiff, Nat.reduceEqDiff, Nat.reduceLT, Nat.reduceBEq, ↓reduceIte, Int.reduceLE, Int.reduceLT, Int.reduceToNat, Int.reduceNeg, reduceCtorEq, Int.reduceEq, SF0, SF1, SF2, DBtf0, DLa0, DCg0, DCe0, DCe1, DCe2, DDb0, DBc0, DBc1, DHa0, DHb0, DHb1, DDe0, DAlh0, DAlv0, DBtc0, DBtc1]
  refine acall_one (plainWorkI_c k (by omega)) (by simp [freeL, AV.free, Work.free]) rfl ?_
  simp (disch := omega) only [SX0, SX1, SX2, SX3, SX4, SX5, SX6, SX7, SX8, SU0, SY0, SY1, Nat.reduceAdd, Nat.reduceMul, Nat.reduceSub, Nat.reduceLeDiff, Nat.reduceEqDiff, Nat.reduceLT, Nat.reduceBEq, ↓reduceIte, Int.reduceLE, Int.reduceLT, Int.reduceToNat, Int.reduceNeg, reduceCtorEq, Int.reduceEq, SF0, SF1, SF2, DBtf0, DLa0, DCg0, DCe0, DCe1, DCe2, DDb0, DBc0, DBc1, DHa0, DHb0, DHb1, DDe0, DAlh0, DAlv0, DBtc0, DBtc1, hp, decide_true, Bool.not_true]
  refine acall_one S (by simp [freeL, AV.free, Work.free]) rfl ?_
  simp (disch := omega) only [SX0, SX1, SX2, SX3, SX4, SX5, SX6, SX7, SX8, SU0, SY0, SY1, Nat.reduceAdd, Nat.reduceMul, Nat.reduceSub, Nat.reduceLeDiff, Nat.reduceEqDiff, Nat.reduceLT, Nat.reduceBEq, ↓reduceIte, Int.reduceLE, Int.reduceLT, Int.reduceToNat, Int.reduceNeg, reduceCtorEq, Int.reduceEq, SF0, SF1, SF2, DBtf0, DLa0, DCg0, DCe0, DCe1, DCe2, DDb0, DBc0, DBc1, DHa0, DHb0, DHb1, DDe0, DAlh0, DAlv0, DBtc0, DBtc1, sheetsV]
  refine awp_wk (wk_nil 3 5 (by decide) rfl) ?_
  refine awp_wk wk_noforest ?_
  simp (disch := omega) only [SX0, SX1, SX2, SX3, SX4, SX5, SX6, SX7, SX8, SU0, SY0, SY1, Nat.reduceAdd, Nat.reduceMul, Nat.reduceSub, Nat.reduceLeDiff, Nat.reduceEqDiff, Nat.reduceLT, Nat.reduceBEq, ↓reduceIte, Int.reduceLE, Int.reduceLT, Int.reduceToNat, Int.reduceNeg, reduceCtorEq, Int.reduceEq, SF0, SF1, SF2, DBtf0, DLa0, DCg0, DCe0, DCe1, DCe2, DDb0, DBc0, DBc1, DHa0, DHb0, DHb1, DDe0, DAlh0, DAlv0, DBtc0, DBtc1]
  with_reducible refine awp_loop_h (G := List Value × (Nat → Prop)) 5 21 (fun g => [(3, .os 1 5 0 g.1.length), (10, .sl (t.map fun x => [sheetV x])), (11, .val (.int .i64 t.length)), (12, .val (.int .i64 g.1.length))]) (fun g => [.cells k.cs, .vec 5 (rowsK 4 ((t.take g.1.length).map fun x => (sheetP k x k.H).cs) g.1), .forest g.2 (itemsK 4 ((t.take g.1.length).map fun x => (sheetP k x k.H).cs) g.1)]) (fun g => g.1.length ≤ t.length) (fun g => t.length - g.1.length) ([], fun _ => False) (Nat.zero_le _) ?_ (fun g hi => sx_sound (bl := []) T_tt _ _ _ ?_)
  · simp (disch := omega) only [SX0, SX1, SX2, SX3, SX4, SX5, SX6, SX7, SX8, SU0, SY0, SY1, Nat.reduceAdd, Nat.reduceMul, Nat.reduceSub, Nat.reduceLeDiff, Nat.reduceEqDiff, Nat.reduceLT, Nat.reduceBEq, ↓reduceIte, Int.reduceLE, Int.reduceLT, Int.reduceToNat, Int.reduceNeg, reduceCtorEq, Int.reduceEq, SF0, SF1, SF2, DBtf0, DLa0, DCg0, DCe0, DCe1, DCe2, DDb0, DBc0, DBc1, DHa0, DHb0, DHb1, DDe0, DAlh0, DAlv0, DBtc0, DBtc1]
    (refine wk_le ?_ ?_ ?_; (focus (simp [W8, leTm, leAV, AV.under, underL, Work.under, rowsK, itemsK]; done)); (focus (simp [leL, OB.under, underL, AV.under, Work.under, rowsK, itemsK]; done)); (focus (simp; done)))
  obtain ⟨kv, S⟩ := g
  simp only at hi
  simp (disch := omega) only [SX0, SX1, SX2, SX3, SX4, SX5, SX6, SX7, SX8, SU0, SY0, SY1, Nat.reduceAdd, Nat.reduceMul, Nat.reduceSub, Nat.reduceLeDiff, Nat.reduceEqDiff, Nat.reduceLT, Nat.reduceBEq, ↓reduceIte, Int.reduceLE, Int.reduceLT, Int.reduceToNat, Int.reduceNeg, reduceCtorEq, Int.reduceEq, SF0, SF1, SF2, DBtf0, DLa0, DCg0, DCe0, DCe1, DCe2, DDb0, DBc0, DBc1, DHa0, DHb0, DHb1, DDe0, DAlh0, DAlv0, DBtc0, DBtc1]
  refine br_dec (fun h1 => ?_) (fun h1 => ?_)
  · obtain ⟨x, hx⟩ := get_lt (l := t) (i := kv.length) (by omega)
    have hxm := List.mem_of_getElem? hx
    have hxo := hall x hxm
    have hxl := hlen.2 x hxm
    have SP := sheetPlan_f k hp x k.H hxo.ne (fun r hr => ⟨(hxo.rows r hr).ne, by have := hxl.2 r hr; omega, (hxo.rows r hr).idx⟩) (by omega) (by omega) (by omega)
    have hkl : kv.length = ((t.take kv.length).map fun x => (sheetP k x k.H).cs).length := by rw [List.length_map, List.length_take]; omega
    have enx : (t.take (kv.length + 1)).map (fun x => (sheetP k x k.H).cs) = (t.take kv.length).map (fun x => (sheetP k x k.H).cs) ++ [(sheetP k x k.H).cs] := by rw [List.take_add_one, hx]; simp
    have hrl : (rowsK 4 ((t.take kv.length).map fun x => (sheetP k x k.H).cs) kv).length = kv.length := by rw [rowsK_len _ _ _ hkl]; exact hkl.symm
    simp (disch := omega) only [SX0, SX1, SX2, SX3, SX4, SX5, SX6, SX7, SX8, SU0, SY0, SY1, Nat.reduceAdd, Nat.reduceMul, Nat.reduceSub, Nat.reduceLeDiff, Nat.reduceEqDiff, Nat.reduceLT, Nat.reduceBEq, ↓reduceIte, Int.reduceLE, Int.reduceLT, Int.reduceToNat, Int.reduceNeg, reduceCtorEq, Int.reduceEq, SF0, SF1, SF2, DBtf0, DLa0, DCg0, DCe0, DCe1, DCe2, DDb0, DBc0, DBc1, DHa0, DHb0, DHb1, DDe0, DAlh0, DAlv0, DBtc0, DBtc1, hx]
    refine acall_mrg SP (by simp [freeL, AV.free, Work.free, sheetV]) (sheetP k x k.H).csV_free 2 rfl fun S' v hv => ?_
    have hs1 := rowsK_snocP hkl (sheetP k x k.H) v
    have hs2 := itemsK_snocP hkl (sheetP k x k.H) v
    rw [← enx] at hs1 hs2
    simp only [Plan.csV, List.map_take] at hs1
    simp only [← hs2]
    simp (disch := omega) only [SX0, SX1, SX2, SX3, SX4, SX5, SX6, SX7, SX8, SU0, SY0, SY1, Nat.reduceAdd, Nat.reduceMul, Nat.reduceSub, Nat.reduceLeDiff, Nat.reduceEqDiff, Nat.reduceLT, Nat.reduceBEq, ↓reduceIte, Int.reduceLE, Int.reduceLT, Int.reduceToNat, Int.reduceNeg, reduceCtorEq, Int.reduceEq, SF0, SF1, SF2, DBtf0, DLa0, DCg0, DCe0, DCe1, DCe2, DDb0, DBc0, DBc1, DHa0, DHb0, DHb1, DDe0, DAlh0, DAlv0, DBtc0, DBtc1, SX0, hv, if_true, Plan.csV]
    repeat' first | simp (disch := omega) only [SX0, SX1, SX2, SX3, SX4, SX5, SX6, SX7, SX8, SU0, SY0, SY1, Nat.reduceAdd, Nat.reduceMul, Nat.reduceSub, Nat.reduceLeDiff, Nat.reduceEqDiff, Nat.reduceLT, Nat.reduceBEq, ↓reduceIte, Int.reduceLE, Int.reduceLT, Int.reduceToNat, Int.reduceNeg, reduceCtorEq, Int.reduceEq, SF0, SF1, SF2, DBtf0, DLa0, DCg0, DCe0, DCe1, DCe2, DDb0, DBc0, DBc1, DHa0, DHb0, DHb1, DDe0, DAlh0, DAlv0, DBtc0, DBtc1, SX0, hv] | refine req (by omega) ?_ | fail
    refine ⟨(kv ++ [v], S'), by simp; omega, by simp; omega, ?_⟩
    (refine wk_le ?_ ?_ ?_; (focus (simp [W8, leTm, leAV, AV.under, underL, Work.under, hs1]; done)); (focus (simp [leL, OB.under, underL, AV.under, Work.under, hs1]; done)); (focus (simp; done)))
  · have hkl : kv.length = t.length := by omega
    have e1 : t.take kv.length = t := List.take_of_length_le (by omega)
    have hpl : (t.map fun x => (sheetP k x k.H).cs) = (t.map fun x => sheetP k x k.H).map Plan.cs := by simp
    rw [e1, hpl]
    simp (disch := omega) only [SX0, SX1, SX2, SX3, SX4, SX5, SX6, SX7, SX8, SU0, SY0, SY1, Nat.reduceAdd, Nat.reduceMul, Nat.reduceSub, Nat.reduceLeDiff, Nat.reduceEqDiff, Nat.reduceLT, Nat.reduceBEq, ↓reduceIte, Int.reduceLE, Int.reduceLT, Int.reduceToNat, Int.reduceNeg, reduceCtorEq, Int.reduceEq, SF0, SF1, SF2, DBtf0, DLa0, DCg0, DCe0, DCe1, DCe2, DDb0, DBc0, DBc1, DHa0, DHb0, DHb1, DDe0, DAlh0, DAlv0, DBtc0, DBtc1]
    refine fin_close rfl (plans_exact _ kv) (by simp) (by rw [rowsK_len _ _ _ (by simp [hkl])]; simp [hkl]) fun S0 v hv => ?_
    refine fin_graft (r := 1) (r2 := 2) (j0 := 4) (es := (t.map fun x => sheetP k x k.H).map Plan.cs) (kv := kv) (by decide) rfl rfl (by simp [hkl]) fun S2 => ?_
    exact fin_ks [1] (.val v) [.forest S2 [(v, .sl ((t.map fun x => sheetP k x k.H).map Plan.cs))]] ⟨S2, v, hv, rfl, rfl⟩ rfl ⟨rfl, trivial⟩ (by simp) (by simp) (by simp)

theorem shelfOfI2_c (k : Work) (o : List Int) (ho : OrdS k o) (hn : k.Ps.length < 2 ^ 40) : ACalls Try.prog 31 [.agg k.cs] [] [] (fun r L => r = .sl ((shelfOf k o).map Plan.cs) ∧ L = []) := by
  by_cases hp : plainW k
  · have hkw := hp.1
    unfold Work.ok at hkw
    exact shelfOfI_c k o ho (by omega)
  · unfold shelfOf
    rw [if_neg hp]
    refine acalls_tm T_tt Try.func31 rfl e_shelfPlansF 25 rfl (W8 _ .any .any .any .any .any .any .any (W8 .any .any .any .any .any .any .any .any (W8 .any .any .any .any .any .any .any .any [.any, .any]))) rfl (rv := [.tmp 2]) rfl (sx_sound (bl := []) T_tt _ _ _ ?_)
    simp (disch := omega) only [SX0, SX1, SX2, SX3, SX4, SX5, SX6, SX7, SX8, SU0, SY0, SY1, Nat.reduceAdd, Nat.reduceMul, Nat.reduceSub, Nat.reduceLeDiff, Nat.reduceEqDiff, Nat.reduceLT, Nat.reduceBEq, ↓reduceIte, Int.reduceLE, Int.reduceLT, Int.reduceToNat, Int.reduceNeg, reduceCtorEq, Int.reduceEq, SF0, SF1, SF2, DBtf0, DLa0, DCg0, DCe0, DCe1, DCe2, DDb0, DBc0, DBc1, DHa0, DHb0, DHb1, DDe0, DAlh0, DAlv0, DBtc0, DBtc1]
    refine acall_one (plainWorkI_c k (by omega)) (by simp [freeL, AV.free, Work.free]) rfl ?_
    simp (disch := omega) only [SX0, SX1, SX2, SX3, SX4, SX5, SX6, SX7, SX8, SU0, SY0, SY1, Nat.reduceAdd, Nat.reduceMul, Nat.reduceSub, Nat.reduceLeDiff, Nat.reduceEqDiff, Nat.reduceLT, Nat.reduceBEq, ↓reduceIte, Int.reduceLE, Int.reduceLT, Int.reduceToNat, Int.reduceNeg, reduceCtorEq, Int.reduceEq, SF0, SF1, SF2, DBtf0, DLa0, DCg0, DCe0, DCe1, DCe2, DDb0, DBc0, DBc1, DHa0, DHb0, DHb1, DDe0, DAlh0, DAlv0, DBtc0, DBtc1, hp, decide_false, Bool.not_false]
    exact fin_nilrow ⟨rfl, rfl⟩
theorem shelfOf_f (k : Work) (o : List Int) (ho : OrdS k o) (hn : k.Ps.length < 2 ^ 40) : ACalls Try.prog 31 [.agg k.cs] [] [] (TreeL (shelfOf k o)) := by
  unfold shelfOf
  by_cases hp : plainW k
  · rw [if_pos hp]
    exact shelfPlans_f k o hp ho
  · rw [if_neg hp]
    refine acalls_tm T_tt Try.func31 rfl e_shelfPlansF 25 rfl (W8 _ .any .any .any .any .any .any .any (W8 .any .any .any .any .any .any .any .any (W8 .any .any .any .any .any .any .any .any [.any, .any]))) rfl (rv := [.tmp 2]) rfl (sx_sound (bl := []) T_tt _ _ _ ?_)
    simp (disch := omega) only [SX0, SX1, SX2, SX3, SX4, SX5, SX6, SX7, SX8, SU0, SY0, SY1, Nat.reduceAdd, Nat.reduceMul, Nat.reduceSub, Nat.reduceLeDiff, Nat.reduceEqDiff, Nat.reduceLT, Nat.reduceBEq, ↓reduceIte, Int.reduceLE, Int.reduceLT, Int.reduceToNat, Int.reduceNeg, reduceCtorEq, Int.reduceEq, SF0, SF1, SF2, DBtf0, DLa0, DCg0, DCe0, DCe1, DCe2, DDb0, DBc0, DBc1, DHa0, DHb0, DHb1, DDe0, DAlh0, DAlv0, DBtc0, DBtc1]
    refine acall_one (plainWorkI_c k (by omega)) (by simp [freeL, AV.free, Work.free]) rfl ?_
    simp (disch := omega) only [SX0, SX1, SX2, SX3, SX4, SX5, SX6, SX7, SX8, SU0, SY0, SY1, Nat.reduceAdd, Nat.reduceMul, Nat.reduceSub, Nat.reduceLeDiff, Nat.reduceEqDiff, Nat.reduceLT, Nat.reduceBEq, ↓reduceIte, Int.reduceLE, Int.reduceLT, Int.reduceToNat, Int.reduceNeg, reduceCtorEq, Int.reduceEq, SF0, SF1, SF2, DBtf0, DLa0, DCg0, DCe0, DCe1, DCe2, DDb0, DBc0, DBc1, DHa0, DHb0, DHb1, DDe0, DAlh0, DAlv0, DBtc0, DBtc1, hp, decide_false, Bool.not_false]
    refine fin_pushf [(.slice none 0 0, .sl [])] (fun w => Forest.one.2 (.nil _ _ _)) ?_
    refine fin_ks [1] (.val (.slice none 0 0)) [.forest (fun _ => False) [(.slice none 0 0, .sl [])]] ⟨_, _, rfl, rfl, rfl⟩ rfl ⟨rfl, trivial⟩ (by simp) (by simp) (by simp)
end Go.Pc
