/- Plans of rows of panes: what the program makes of them. -/
import Derived.Test.YtkcpcmobmalijaaBsc
set_option linter.unusedSimpArgs false
set_option linter.unusedVariables false
namespace Go.Pc
open Go Go.Proofs

mutual
/-- Nil slices, also those inside of slices, read as empty ones. -/
def AV.nrn : AV → AV
  | .val (.slice none 0 0) => .sl []
  | .agg l => .agg (nrnL l)
  | .tup l => .tup (nrnL l)
  | .sl es => .sl (nrnLL es)
  | x => x
def nrnL : List AV → List AV
  | [] => []
  | x :: l => x.nrn :: nrnL l
def nrnLL : List (List AV) → List (List AV)
  | [] => []
  | x :: l => nrnL x :: nrnLL l
end
theorem nrnL_map (l : List AV) : nrnL l = l.map AV.nrn := by
  induction l with
  | nil => simp [nrnL]
  | cons x l ih => simp [nrnL, ih]
theorem nrnLL_map (l : List (List AV)) : nrnLL l = l.map nrnL := by
  induction l with
  | nil => simp [nrnLL]
  | cons x l ih => simp [nrnLL, ih]
theorem PR.nrn {w : World} {o : Nat → Prop} {v : Value} {x : AV} (h : PR w o v x) : PR w o v x.nrn := by
  induction h with
  | any v => simp only [AV.nrn]; exact .any v
  | val v =>
    unfold AV.nrn
    split
    · rename_i he; cases he; exact .slnil _ _
    · rename_i he; cases he
    · rename_i he; cases he
    · rename_i he; cases he
    · exact .val _
  | slnil a c => simp only [AV.nrn, nrnLL]; exact .slnil _ _
  | sl b off k n c es cv hn h0 hc hk hown hlt hl hcell _ ih =>
    have hget : ∀ (i : Nat) e, (nrnLL es)[i]? = some e → ∃ e0, es[i]? = some e0 ∧ e = nrnL e0 := fun i e he => by
      rw [nrnLL_map, List.getElem?_map] at he
      cases hq : es[i]? with
      | none => simp [hq] at he
      | some y => simp [hq] at he; exact ⟨y, rfl, he.symm⟩
    have hget2 : ∀ (e0 : List AV) (j : Nat) x, (nrnL e0)[j]? = some x → ∃ x0, e0[j]? = some x0 ∧ x = x0.nrn := fun e0 j x hx => by
      rw [nrnL_map, List.getElem?_map] at hx
      cases hq : e0[j]? with
      | none => simp [hq] at hx
      | some y => simp [hq] at hx; exact ⟨y, rfl, hx.symm⟩
    simp only [AV.nrn]
    refine .sl b off k n c _ cv (by rw [nrnLL_map, List.length_map]; exact hn) h0 hc hk hown hlt (fun i e he => ?_) (fun i j e x he hx => ?_) fun i j e x he hx => ?_
    · obtain ⟨e0, h1, rfl⟩ := hget i e he
      rw [nrnL_map, List.length_map]; exact hl i e0 h1
    · obtain ⟨e0, h1, rfl⟩ := hget i e he
      obtain ⟨x0, h2, rfl⟩ := hget2 e0 j x hx
      exact hcell i j e0 x0 h1 h2
    · obtain ⟨e0, h1, rfl⟩ := hget i e he
      obtain ⟨x0, h2, rfl⟩ := hget2 e0 j x hx
      exact ih i j e0 x0 h1 h2
theorem VR.nrn {w : World} {ρ : Env} {v : Value} {x : AV} (h : VR w ρ v x) : VR w ρ v x.nrn := by
  induction h with
  | pr h => exact .pr h.nrn
  | agg c l hs _ ih =>
    simp only [AV.nrn, nrnL_map]
    refine .agg c _ (by simpa using hs) fun i v x hv hx => ?_
    rw [List.getElem?_map] at hx
    cases hl : l[i]? with
    | none => simp [hl] at hx
    | some y => simp [hl] at hx; subst hx; exact ih i v y hv hl
  | tup c l hs _ ih =>
    simp only [AV.nrn, nrnL_map]
    refine .tup c _ (by simpa using hs) fun i v x hv hx => ?_
    rw [List.getElem?_map] at hx
    cases hl : l[i]? with
    | none => simp [hl] at hx
    | some y => simp [hl] at hx; subst hx; exact ih i v y hv hl
  | ip b o cs cv ho' hlt hcell hread => simp only [AV.nrn]; exact .ip b o cs cv ho' hlt hcell hread
  | ptr r off b base hr => simp only [AV.nrn]; exact .ptr r off b base hr
  | vp r k i off b base hr => simp only [AV.nrn]; exact .vp r k i off b base hr
  | osnil r k hr => simp only [AV.nrn]; exact .osnil r k hr
  | osz r k off a b base hr => simp only [AV.nrn]; exact .osz r k off a b base hr
  | os r k off n c b base cs e fz hr hc hb hsz => simp only [AV.nrn]; exact .os r k off n c b base cs e fz hr hc hb hsz
  | fn f c l hs h _ => simp only [AV.nrn]; exact .fn f c l hs h
theorem fin_nrn {fx : List Nat} {nb : Nat} {R : AV → List OB → Prop} {s : AS} {x : AV} (h' : Fin fx nb R s x.nrn) : Fin fx nb R s x := by
  exact fun ρ a w v hr hv => h' ρ a w v hr hv.nrn
mutual
theorem Plan.nrn : ∀ p : Plan, nrnL p.cs = p.cs
  | .mk o a p t k => by simp only [Plan.cs, nrnL, AV.nrn, Plan.nrnLL k]
theorem Plan.nrnLL : ∀ l : List Plan, nrnLL (Plan.csL l) = Plan.csL l
  | [] => rfl
  | p :: l => by simp only [Plan.csL, Go.Pc.nrnLL, Plan.nrn p, Plan.nrnLL l]
end

def wasteP : Plan := .mk 0 0 0 false []
/-- A pane in a row of some height. -/
def oneP (k : Work) (i h : Int) : Plan := if (paneA k i).H < h then .mk 3 (paneA k i).H 0 false [.mk 1 0 i false [], wasteP] else .mk 1 0 i false []
/-- The panes of a row on glass of some sides. -/
def rowP (k : Work) : List Int → Int → Int → Plan
  | [], _, _ => wasteP
  | i :: r, w, h => if (paneA k i).W = w then oneP k i h else .mk 2 (paneA k i).W 0 false [oneP k i h, rowP k r (w - (paneA k i).W) h]
/-- Rows one above the other. -/
def sheetP (k : Work) : List (List Int) → Int → Plan
  | [], _ => wasteP
  | [] :: _, _ => wasteP
  | (i :: r) :: rows, h => if (paneA k i).H = h then rowP k (i :: r) k.W (paneA k i).H else .mk 3 (paneA k i).H 0 false [rowP k (i :: r) k.W (paneA k i).H, sheetP k rows (h - (paneA k i).H)]

theorem wasteP_cs : wasteP.cs = [.val (.int .i64 0), .val (.int .i64 0), .val (.int .i64 0), .val (.bool false), .sl []] := by simp [wasteP, Plan.cs_eq (Plan.mk _ _ _ _ _), Plan.op, Plan.at_, Plan.pa, Plan.tu, Plan.ks]
theorem cut2_cs (o c : Int) (x y : Plan) : (Plan.mk o c 0 false [x, y]).cs = [.val (.int .i64 o), .val (.int .i64 c), .val (.int .i64 0), .val (.bool false), .sl [x.cs, y.cs]] := by simp [Plan.cs_eq (Plan.mk _ _ _ _ _), Plan.op, Plan.at_, Plan.pa, Plan.tu, Plan.ks]
theorem paneP_cs (i : Int) : (Plan.mk 1 0 i false []).cs = [.val (.int .i64 1), .val (.int .i64 0), .val (.int .i64 i), .val (.bool false), .sl []] := by simp [Plan.cs_eq (Plan.mk _ _ _ _ _), Plan.op, Plan.at_, Plan.pa, Plan.tu, Plan.ks]

theorem e_rowPlanI : Enters Try.prog 132 := enters_of Try.func132 (by kernel_rfl) (by kernel_rfl)
set_option maxRecDepth 16000 in
set_option maxHeartbeats 8000000 in
theorem rowPlanI_c (k : Work) (hk : plainW k) (h : Int) : ∀ (r : List Int) (w : Int), r ≠ [] → (∀ i ∈ r, 0 ≤ i ∧ i < (k.Ps.length : Int)) → -1000000 + 200 * r.length ≤ w → w ≤ 200 → r.length ≤ 1000 → ACalls Try.prog 132 [.agg k.cs, .sl (ints r), .val (.int .i64 w), .val (.int .i64 h)] [] [] (fun x L => x = .agg (rowP k r w h).cs ∧ L = []) := by
  intro r
  induction r with
  | nil => intro w h0; exact absurd rfl h0
  | cons i r ih =>
  intro w _ hi hw1 hw2 hrl
  have him := hi i (by simp)
  have gi := paneA_get him
  obtain ⟨pi1, pi2, _⟩ := hk.pane him
  have hi0 : (0 ≤ i) = True := eq_true him.1
  have hkw := hk.1
  unfold Work.ok at hkw
  simp only [List.length_cons] at hw1 hrl
  have hrp : rowP k (i :: r) w h = if (paneA k i).W = w then oneP k i h else .mk 2 (paneA k i).W 0 false [oneP k i h, rowP k r (w - (paneA k i).W) h] := by rw [rowP]
  rw [hrp]
  generalize hq : paneA k i = q at *
  refine acalls_tm T_tt Try.func132 rfl e_rowPlanI 53 rfl (W8 _ _ _ _ .any .any .any .any (W8 .any .any .any .any .any .any .any .any (W8 .any .any .any .any .any .any .any .any (W8 .any .any .any .any .any .any .any .any (W8 .any .any .any .any .any .any .any .any (W8 .any .any .any .any .any .any .any .any (W8 .any .any .any .any .any .any .any .any [.any]))))))) rfl (rv := [.cell 8 31]) rfl (sx_sound (bl := []) T_tt _ _ _ ?_)
  simp (disch := omega) only [SX0, SX1, SX2, SX3, SX4, SX5, SX6, SX7, SX8, SU0, SY0, SY1, Nat.reduceAdd, Nat.reduceMul, Nat.reduceSub, Nat.reduceLeDiff, Nat.reduceEqDiff, Nat.reduceLT, Nat.reduceBEq, ↓reduceIte, Int.reduceLE, Int.reduceLT, Int.reduceToNat, Int.reduceNeg, reduceCtorEq, Int.reduceEq, SF0, SF1, SF2, DHb0, DHb1, DHa0, DCg0, DCe0, DCe1, DCe2, DDb0, DBc0, DBc1, DDe0, DAlh0, DAlv0, DBtc0]
  refine awp_floatG (bl := []) T_tt mixed [0, 1] [0, 1, 2, 3, 4, 5, 6] [0, 1, 2, 3, 4, 5, 6] [⟨8, [0, 1], [(0, .f 12), (1, .f 13), (2, .f 14), (3, .f 15), (4, .f 16), (5, .f 17), (6, .f 18), (7, .a 9 63)], [], []⟩] [] (by kernel_rfl) (by kernel_rfl) ?_
  repeat' first | simp (disch := omega) only [SX0, SX1, SX2, SX3, SX4, SX5, SX6, SX7, SX8, SU0, SY0, SY1, Nat.reduceAdd, Nat.reduceMul, Nat.reduceSub, Nat.reduceLeDiff, Nat.reduceEqDiff, Nat.reduceLT, Nat.reduceBEq, ↓reduceIte, Int.reduceLE, Int.reduceLT, Int.reduceToNat, Int.reduceNeg, reduceCtorEq, Int.reduceEq, SF0, SF1, SF2, DHb0, DHb1, DHa0, DCg0, DCe0, DCe1, DCe2, DDb0, DBc0, DBc1, DDe0, DAlh0, DAlv0, DBtc0, SX0, gi, hi0, Pane.cs, List.map_cons, List.getElem?_cons_zero] | refine req (by omega) ?_ | fail
  have fin : ∀ (s : AS) (x : AV), x.nrn = .agg (if q.W = w then oneP k i h else .mk 2 q.W 0 false [oneP k i h, rowP k r (w - q.W) h]).cs → Fin [] 0 (fun x L => x = .agg (if q.W = w then oneP k i h else .mk 2 q.W 0 false [oneP k i h, rowP k r (w - q.W) h]).cs ∧ L = []) s x := fun s x hx => by
    refine fin_nrn ?_
    rw [hx]
    exact fin_free (by simp [AV.free, Plan.free]) ⟨rfl, rfl⟩
  refine br_dec (fun h1 => ?_) (fun h1 => ?_)
  all_goals
    have e1 : oneP k i h = if q.H < h then .mk 3 q.H 0 false [.mk 1 0 i false [], wasteP] else .mk 1 0 i false [] := by unfold oneP; rw [hq]
    first | rw [if_pos h1] at e1 | rw [if_neg h1] at e1
    simp (disch := omega) only [SX0, SX1, SX2, SX3, SX4, SX5, SX6, SX7, SX8, SU0, SY0, SY1, Nat.reduceAdd, Nat.reduceMul, Nat.reduceSub, Nat.reduceLeDiff, Nat.reduceEqDiff, Nat.reduceLT, Nat.reduceBEq, ↓reduceIte, Int.reduceLE, Int.reduceLT, Int.reduceToNat, Int.reduceNeg, reduceCtorEq, Int.reduceEq, SF0, SF1, SF2, DHb0, DHb1, DHa0, DCg0, DCe0, DCe1, DCe2, DDb0, DBc0, DBc1, DDe0, DAlh0, DAlv0, DBtc0]
    refine br_dec (fun h2 => ?_) (fun h2 => ?_)
    · simp (disch := omega) only [SX0, SX1, SX2, SX3, SX4, SX5, SX6, SX7, SX8, SU0, SY0, SY1, Nat.reduceAdd, Nat.reduceMul, Nat.reduceSub, Nat.reduceLeDiff, Nat.reduceEqDiff, Nat.reduceLT, Nat.reduceBEq, ↓reduceIte, Int.reduceLE, Int.reduceLT, Int.reduceToNat, Int.reduceNeg, reduceCtorEq, Int.reduceEq, SF0, SF1, SF2, DHb0, DHb1, DHa0, DCg0, DCe0, DCe1, DCe2, DDb0, DBc0, DBc1, DDe0, DAlh0, DAlv0, DBtc0]
      refine fin _ _ ?_
      rw [if_pos h2, e1]
      simp only [AV.nrn, nrnL, nrnLL, cut2_cs, paneP_cs, wasteP_cs]
    simp (disch := omega) only [SX0, SX1, SX2, SX3, SX4, SX5, SX6, SX7, SX8, SU0, SY0, SY1, Nat.reduceAdd, Nat.reduceMul, Nat.reduceSub, Nat.reduceLeDiff, Nat.reduceEqDiff, Nat.reduceLT, Nat.reduceBEq, ↓reduceIte, Int.reduceLE, Int.reduceLT, Int.reduceToNat, Int.reduceNeg, reduceCtorEq, Int.reduceEq, SF0, SF1, SF2, DHb0, DHb1, DHa0, DCg0, DCe0, DCe1, DCe2, DDb0, DBc0, DBc1, DDe0, DAlh0, DAlv0, DBtc0]
    refine br_dec (fun h3 => ?_) (fun h3 => ?_)
    · simp (disch := omega) only [SX0, SX1, SX2, SX3, SX4, SX5, SX6, SX7, SX8, SU0, SY0, SY1, Nat.reduceAdd, Nat.reduceMul, Nat.reduceSub, Nat.reduceLeDiff, Nat.reduceEqDiff, Nat.reduceLT, Nat.reduceBEq, ↓reduceIte, Int.reduceLE, Int.reduceLT, Int.reduceToNat, Int.reduceNeg, reduceCtorEq, Int.reduceEq, SF0, SF1, SF2, DHb0, DHb1, DHa0, DCg0, DCe0, DCe1, DCe2, DDb0, DBc0, DBc1, DDe0, DAlh0, DAlv0, DBtc0]
      have hr0 : r ≠ [] := fun h => by subst h; simp only [List.length_nil] at h3; omega
      refine awp_draw (bl := []) T_tt mixed 9 (by decide) (by kernel_rfl) (.inr ⟨by kernel_rfl, by kernel_rfl⟩) (by kernel_rfl) ?_
      have htt : List.take r.length (List.map (fun x => [AV.val (.int .i64 x)]) r) = List.map (fun x => [AV.val (.int .i64 x)]) r := List.take_of_length_le (by simp)
      repeat' first | simp (disch := omega) only [SX0, SX1, SX2, SX3, SX4, SX5, SX6, SX7, SX8, SU0, SY0, SY1, Nat.reduceAdd, Nat.reduceMul, Nat.reduceSub, Nat.reduceLeDiff, Nat.reduceEqDiff, Nat.reduceLT, Nat.reduceBEq, ↓reduceIte, Int.reduceLE, Int.reduceLT, Int.reduceToNat, Int.reduceNeg, reduceCtorEq, Int.reduceEq, SF0, SF1, SF2, DHb0, DHb1, DHa0, DCg0, DCe0, DCe1, DCe2, DDb0, DBc0, DBc1, DDe0, DAlh0, DAlv0, DBtc0, List.drop_succ_cons, List.drop_zero, Pane.cs, htt] | refine req (by omega) ?_ | refine req ⟨Nat.le_refl _, fun c hc => by rw [← hc]; rfl⟩ ?_ | fail
      refine qc_one (ih (w - q.W) hr0 (fun j hj => hi j (by simp [hj])) (by omega) (by omega) (by omega)) (by simp [freeL, AV.free, Work.free]) ?_
      simp (disch := omega) only [SX0, SX1, SX2, SX3, SX4, SX5, SX6, SX7, SX8, SU0, SY0, SY1, Nat.reduceAdd, Nat.reduceMul, Nat.reduceSub, Nat.reduceLeDiff, Nat.reduceEqDiff, Nat.reduceLT, Nat.reduceBEq, ↓reduceIte, Int.reduceLE, Int.reduceLT, Int.reduceToNat, Int.reduceNeg, reduceCtorEq, Int.reduceEq, SF0, SF1, SF2, DHb0, DHb1, DHa0, DCg0, DCe0, DCe1, DCe2, DDb0, DBc0, DBc1, DDe0, DAlh0, DAlv0, DBtc0]
      refine fin _ _ ?_
      rw [if_neg h2, e1]
      simp only [AV.nrn, nrnL, nrnLL, cut2_cs, paneP_cs, wasteP_cs, Plan.nrn]
    · simp (disch := omega) only [SX0, SX1, SX2, SX3, SX4, SX5, SX6, SX7, SX8, SU0, SY0, SY1, Nat.reduceAdd, Nat.reduceMul, Nat.reduceSub, Nat.reduceLeDiff, Nat.reduceEqDiff, Nat.reduceLT, Nat.reduceBEq, ↓reduceIte, Int.reduceLE, Int.reduceLT, Int.reduceToNat, Int.reduceNeg, reduceCtorEq, Int.reduceEq, SF0, SF1, SF2, DHb0, DHb1, DHa0, DCg0, DCe0, DCe1, DCe2, DDb0, DBc0, DBc1, DDe0, DAlh0, DAlv0, DBtc0]
      refine fin _ _ ?_
      have er : r = [] := by cases r with
        | nil => rfl
        | cons a b => simp only [List.length_cons] at h3; omega
      rw [if_neg h2, e1, er, rowP]
      simp only [AV.nrn, nrnL, nrnLL, cut2_cs, paneP_cs, wasteP_cs]

theorem e_sheetPlanI : Enters Try.prog 81 := enters_of Try.func81 (by kernel_rfl) (by kernel_rfl)
set_option maxRecDepth 16000 in
set_option maxHeartbeats 8000000 in
theorem sheetPlanI_c (k : Work) (hk : plainW k) : ∀ (rows : List (List Int)) (h : Int), rows ≠ [] → (∀ r ∈ rows, r ≠ [] ∧ r.length ≤ 1000 ∧ ∀ i ∈ r, 0 ≤ i ∧ i < (k.Ps.length : Int)) → -1000000 + 200 * rows.length ≤ h → h ≤ 200 → rows.length ≤ 1000 → ACalls Try.prog 81 [.agg k.cs, sheetV rows, .val (.int .i64 h)] [] [] (fun x L => x = .agg (sheetP k rows h).cs ∧ L = []) := by
  intro rows
  induction rows with
  | nil => intro h h0; exact absurd rfl h0
  | cons r rows ih =>
  intro h _ hr hh1 hh2 hrl
  obtain ⟨hr0, hrl0, hri⟩ := hr r (by simp)
  cases r with
  | nil => exact absurd rfl hr0
  | cons i r =>
  have him := hri i (by simp)
  have gi := paneA_get him
  obtain ⟨pi1, pi2, _⟩ := hk.pane him
  have hi0 : (0 ≤ i) = True := eq_true him.1
  have hkw := hk.1
  unfold Work.ok at hkw
  simp only [List.length_cons] at hh1 hrl hrl0
  have hsp : sheetP k ((i :: r) :: rows) h = if (paneA k i).H = h then rowP k (i :: r) k.W (paneA k i).H else .mk 3 (paneA k i).H 0 false [rowP k (i :: r) k.W (paneA k i).H, sheetP k rows (h - (paneA k i).H)] := by rw [sheetP]
  have RP := rowPlanI_c k hk (paneA k i).H (i :: r) k.W (by simp) hri (by simp only [List.length_cons]; omega) (by omega) (by simp only [List.length_cons]; omega)
  simp only [ints, List.map_cons] at RP
  rw [hsp]
  generalize hrp : rowP k (i :: r) k.W (paneA k i).H = rp at *
  generalize hq : paneA k i = q at *
  simp only [sheetV, rowV, List.map_cons, ints]
  refine acalls_tm T_tt Try.func81 rfl e_sheetPlanI 45 rfl (W8 _ _ _ .any .any .any .any .any (W8 .any .any .any .any .any .any .any .any (W8 .any .any .any .any .any .any .any .any (W8 .any .any .any .any .any .any .any .any (W8 .any .any .any .any .any .any .any .any (W8 .any .any .any .any .any .any .any .any [])))))) rfl (rv := [.cell 6 31]) rfl (sx_sound (bl := []) T_tt _ _ _ ?_)
  simp (disch := omega) only [SX0, SX1, SX2, SX3, SX4, SX5, SX6, SX7, SX8, SU0, SY0, SY1, Nat.reduceAdd, Nat.reduceMul, Nat.reduceSub, Nat.reduceLeDiff, Nat.reduceEqDiff, Nat.reduceLT, Nat.reduceBEq, ↓reduceIte, Int.reduceLE, Int.reduceLT, Int.reduceToNat, Int.reduceNeg, reduceCtorEq, Int.reduceEq, SF0, SF1, SF2, DHb0, DHb1, DHa0, DCg0, DCe0, DCe1, DCe2, DDb0, DBc0, DBc1, DDe0, DAlh0, DAlv0, DBtc0]
  refine awp_drawA T_tt mixed (by decide +kernel) (by kernel_rfl) (by kernel_rfl) ?_
  repeat' first | simp (disch := omega) only [SX0, SX1, SX2, SX3, SX4, SX5, SX6, SX7, SX8, SU0, SY0, SY1, Nat.reduceAdd, Nat.reduceMul, Nat.reduceSub, Nat.reduceLeDiff, Nat.reduceEqDiff, Nat.reduceLT, Nat.reduceBEq, ↓reduceIte, Int.reduceLE, Int.reduceLT, Int.reduceToNat, Int.reduceNeg, reduceCtorEq, Int.reduceEq, SF0, SF1, SF2, DHb0, DHb1, DHa0, DCg0, DCe0, DCe1, DCe2, DDb0, DBc0, DBc1, DDe0, DAlh0, DAlv0, DBtc0, gi, hi0, Pane.cs, List.map_cons, List.getElem?_cons_zero] | refine req (by omega) ?_ | fail
  refine awp_floatG (bl := []) T_tt mixed [0, 1] [0, 1, 2, 3, 4, 5, 6, 7] [0, 1, 2, 3, 4, 5, 6, 7] [⟨9, [0, 1], [(0, .f 20), (1, .f 21), (2, .f 22), (3, .f 23), (4, .f 24), (5, .f 25), (6, .f 26), (7, .f 27), (8, .a 8 31)], [], []⟩] [] (by kernel_rfl) (by kernel_rfl) ?_
  repeat' first | simp (disch := omega) only [SX0, SX1, SX2, SX3, SX4, SX5, SX6, SX7, SX8, SU0, SY0, SY1, Nat.reduceAdd, Nat.reduceMul, Nat.reduceSub, Nat.reduceLeDiff, Nat.reduceEqDiff, Nat.reduceLT, Nat.reduceBEq, ↓reduceIte, Int.reduceLE, Int.reduceLT, Int.reduceToNat, Int.reduceNeg, reduceCtorEq, Int.reduceEq, SF0, SF1, SF2, DHb0, DHb1, DHa0, DCg0, DCe0, DCe1, DCe2, DDb0, DBc0, DBc1, DDe0, DAlh0, DAlv0, DBtc0, SX0, gi, hi0, Pane.cs, List.map_cons, List.getElem?_cons_zero] | refine req (by omega) ?_ | fail
  refine qc_one RP (by simp [freeL, AV.free, Work.free]) ?_
  repeat' first | simp (disch := omega) only [SX0, SX1, SX2, SX3, SX4, SX5, SX6, SX7, SX8, SU0, SY0, SY1, Nat.reduceAdd, Nat.reduceMul, Nat.reduceSub, Nat.reduceLeDiff, Nat.reduceEqDiff, Nat.reduceLT, Nat.reduceBEq, ↓reduceIte, Int.reduceLE, Int.reduceLT, Int.reduceToNat, Int.reduceNeg, reduceCtorEq, Int.reduceEq, SF0, SF1, SF2, DHb0, DHb1, DHa0, DCg0, DCe0, DCe1, DCe2, DDb0, DBc0, DBc1, DDe0, DAlh0, DAlv0, DBtc0, SX0, gi, hi0, Pane.cs, List.map_cons, List.getElem?_cons_zero] | refine req (by omega) ?_ | fail
  have fin : ∀ (s : AS) (x : AV), x.nrn = .agg (if q.H = h then rp else .mk 3 q.H 0 false [rp, sheetP k rows (h - q.H)]).cs → Fin [] 0 (fun x L => x = .agg (if q.H = h then rp else .mk 3 q.H 0 false [rp, sheetP k rows (h - q.H)]).cs ∧ L = []) s x := fun s x hx => by
    refine fin_nrn ?_
    rw [hx]
    exact fin_free (by simp [AV.free, Plan.free]) ⟨rfl, rfl⟩
  refine br_dec (fun h2 => ?_) (fun h2 => ?_)
  · simp (disch := omega) only [SX0, SX1, SX2, SX3, SX4, SX5, SX6, SX7, SX8, SU0, SY0, SY1, Nat.reduceAdd, Nat.reduceMul, Nat.reduceSub, Nat.reduceLeDiff, Nat.reduceEqDiff, Nat.reduceLT, Nat.reduceBEq, ↓reduceIte, Int.reduceLE, Int.reduceLT, Int.reduceToNat, Int.reduceNeg, reduceCtorEq, Int.reduceEq, SF0, SF1, SF2, DHb0, DHb1, DHa0, DCg0, DCe0, DCe1, DCe2, DDb0, DBc0, DBc1, DDe0, DAlh0, DAlv0, DBtc0]
    refine fin _ _ ?_
    rw [if_pos h2]
    simp only [AV.nrn, Plan.nrn]
  simp (disch := omega) only [SX0, SX1, SX2, SX3, SX4, SX5, SX6, SX7, SX8, SU0, SY0, SY1, Nat.reduceAdd, Nat.reduceMul, Nat.reduceSub, Nat.reduceLeDiff, Nat.reduceEqDiff, Nat.reduceLT, Nat.reduceBEq, ↓reduceIte, Int.reduceLE, Int.reduceLT, Int.reduceToNat, Int.reduceNeg, reduceCtorEq, Int.reduceEq, SF0, SF1, SF2, DHb0, DHb1, DHa0, DCg0, DCe0, DCe1, DCe2, DDb0, DBc0, DBc1, DDe0, DAlh0, DAlv0, DBtc0]
  refine br_dec (fun h3 => ?_) (fun h3 => ?_)
  · simp (disch := omega) only [SX0, SX1, SX2, SX3, SX4, SX5, SX6, SX7, SX8, SU0, SY0, SY1, Nat.reduceAdd, Nat.reduceMul, Nat.reduceSub, Nat.reduceLeDiff, Nat.reduceEqDiff, Nat.reduceLT, Nat.reduceBEq, ↓reduceIte, Int.reduceLE, Int.reduceLT, Int.reduceToNat, Int.reduceNeg, reduceCtorEq, Int.reduceEq, SF0, SF1, SF2, DHb0, DHb1, DHa0, DCg0, DCe0, DCe1, DCe2, DDb0, DBc0, DBc1, DDe0, DAlh0, DAlv0, DBtc0]
    have hr0 : rows ≠ [] := fun h => by subst h; simp only [List.length_nil] at h3; omega
    have htt : List.take rows.length (List.map (fun r => [AV.sl (List.map (fun x => [AV.val (.int .i64 x)]) r)]) rows) = List.map (fun r => [AV.sl (List.map (fun x => [AV.val (.int .i64 x)]) r)]) rows := List.take_of_length_le (by simp)
    refine awp_draw (bl := []) T_tt mixed 7 (by decide) (by kernel_rfl) (.inr ⟨by kernel_rfl, by kernel_rfl⟩) (by kernel_rfl) ?_
    repeat' first | simp (disch := omega) only [SX0, SX1, SX2, SX3, SX4, SX5, SX6, SX7, SX8, SU0, SY0, SY1, Nat.reduceAdd, Nat.reduceMul, Nat.reduceSub, Nat.reduceLeDiff, Nat.reduceEqDiff, Nat.reduceLT, Nat.reduceBEq, ↓reduceIte, Int.reduceLE, Int.reduceLT, Int.reduceToNat, Int.reduceNeg, reduceCtorEq, Int.reduceEq, SF0, SF1, SF2, DHb0, DHb1, DHa0, DCg0, DCe0, DCe1, DCe2, DDb0, DBc0, DBc1, DDe0, DAlh0, DAlv0, DBtc0, List.drop_succ_cons, List.drop_zero, Pane.cs, htt] | refine req (by omega) ?_ | refine req ⟨Nat.le_refl _, fun c hc => by rw [← hc]; rfl⟩ ?_ | fail
    refine qc_one (ih (h - q.H) hr0 (fun j hj => hr j (by simp [hj])) (by omega) (by omega) (by omega)) (by simp [freeL, AV.free, Work.free, sheetV]) ?_
    simp (disch := omega) only [SX0, SX1, SX2, SX3, SX4, SX5, SX6, SX7, SX8, SU0, SY0, SY1, Nat.reduceAdd, Nat.reduceMul, Nat.reduceSub, Nat.reduceLeDiff, Nat.reduceEqDiff, Nat.reduceLT, Nat.reduceBEq, ↓reduceIte, Int.reduceLE, Int.reduceLT, Int.reduceToNat, Int.reduceNeg, reduceCtorEq, Int.reduceEq, SF0, SF1, SF2, DHb0, DHb1, DHa0, DCg0, DCe0, DCe1, DCe2, DDb0, DBc0, DBc1, DDe0, DAlh0, DAlv0, DBtc0]
    refine fin _ _ ?_
    rw [if_neg h2]
    simp only [AV.nrn, nrnL, nrnLL, cut2_cs, Plan.nrn]
  · simp (disch := omega) only [SX0, SX1, SX2, SX3, SX4, SX5, SX6, SX7, SX8, SU0, SY0, SY1, Nat.reduceAdd, Nat.reduceMul, Nat.reduceSub, Nat.reduceLeDiff, Nat.reduceEqDiff, Nat.reduceLT, Nat.reduceBEq, ↓reduceIte, Int.reduceLE, Int.reduceLT, Int.reduceToNat, Int.reduceNeg, reduceCtorEq, Int.reduceEq, SF0, SF1, SF2, DHb0, DHb1, DHa0, DCg0, DCe0, DCe1, DCe2, DDb0, DBc0, DBc1, DDe0, DAlh0, DAlv0, DBtc0]
    refine fin _ _ ?_
    have er : rows = [] := by cases rows with
      | nil => rfl
      | cons a b => simp only [List.length_cons] at h3; omega
    rw [if_neg h2, er, sheetP]
    simp only [AV.nrn, nrnL, nrnLL, cut2_cs, wasteP_cs, Plan.nrn]

end Go.Pc
