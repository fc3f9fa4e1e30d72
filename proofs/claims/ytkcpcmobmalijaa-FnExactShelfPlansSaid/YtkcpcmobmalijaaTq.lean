/- Plans and works copied into memory of their own; marks in them. -/
import Derived.Test.YtkcpcmobmalijaaTm
set_option linter.unusedSimpArgs false
set_option linter.unusedVariables false
namespace Go.Pc
open Go Go.Proofs

theorem rowsK_len (j0 : Nat) (es : List (List AV)) (kv : List Value) (h : kv.length = es.length) : (rowsK j0 es kv).length = es.length := by simp [rowsK, h]
theorem exact_rowsK {j0 : Nat} {es : List (List AV)} {kv : List Value} (h : ∀ e ∈ es, ∀ j x, e[j]? = some x → j ≠ j0 → x.exact = true) : exactR (rowsK j0 es kv) = true := by
  simp only [exactR, List.all_eq_true]
  intro r hr x hx
  obtain ⟨i, hi⟩ := List.mem_iff_getElem?.1 hr
  rw [rowsK, List.getElem?_zipWith] at hi
  cases he : es[i]? with
  | none => simp [he] at hi
  | some e =>
    cases hv : kv[i]? with
    | none => simp [he, hv] at hi
    | some v =>
      simp [he, hv] at hi
      subst hi
      obtain ⟨j, hj⟩ := List.mem_iff_getElem?.1 hx
      by_cases e0 : j0 = j
      · subst e0
        rw [List.getElem?_set] at hj
        simp at hj
        rw [← hj.2]; rfl
      · rw [List.getElem?_set_ne e0] at hj
        exact h e (List.mem_of_getElem? he) j x hj (fun e' => e0 e'.symm)

def Plan.csV (p : Plan) (v : Value) : List AV := [.val (.int .i64 p.op), .val (.int .i64 p.at_), .val (.int .i64 p.pa), .val (.bool p.tu), .val v]
theorem Plan.set4 (p : Plan) (v : Value) : p.cs.set 4 (.val v) = p.csV v := by rw [Plan.cs_eq]; rfl
theorem Plan.get4 (p : Plan) : p.cs.getD 4 .any = .sl (p.ks.map Plan.cs) := by rw [Plan.cs_eq]; rfl
theorem Plan.exact4 (p : Plan) : ∀ j x, p.cs[j]? = some x → j ≠ 4 → x.exact = true := fun j x hx hj => by
  rw [Plan.cs_eq] at hx
  match j, hx with
  | 0, hx => simp at hx; subst hx; rfl
  | 1, hx => simp at hx; subst hx; rfl
  | 2, hx => simp at hx; subst hx; rfl
  | 3, hx => simp at hx; subst hx; rfl
  | 4, _ => exact absurd rfl hj
  | j + 5, hx => simp at hx
theorem plans_exact (l : List Plan) (kv : List Value) : exactR (rowsK 4 (l.map Plan.cs) kv) = true := exact_rowsK fun e he => by
  obtain ⟨p, _, rfl⟩ := List.mem_map.1 he
  exact p.exact4
theorem Plan.csV_free (p : Plan) (v : Value) : (AV.agg (p.csV v)).free = true := rfl

/-! ### Marks in plans -/

mutual
def Plan.mark : Plan → Int → Plan
  | .mk _ _ _ _ ks, k => .mk k (k + 1) (k + 1 + 1) (decide ((k + 1 + 1 + 1).tmod 3 = 0)) (markL ks (k + 1 + 1 + 1 + 1))
def markL : List Plan → Int → List Plan
  | [], _ => []
  | q :: l, k => q.mark k :: markL l (k + 4 * q.nodes)
end
theorem markL_len : ∀ (l : List Plan) (k : Int), (markL l k).length = l.length
  | [], _ => rfl
  | q :: l, k => by simp [markL, markL_len l]
theorem markL_get : ∀ {l : List Plan} {k : Int} {i : Nat} {q : Plan}, l[i]? = some q → (markL l k)[i]? = some (q.mark (k + 4 * Plan.nodesL (l.take i)))
  | [], _, _, _, h => by simp at h
  | p :: l, k, 0, q, h => by simp at h; subst h; simp [markL, Plan.nodesL]
  | p :: l, k, i + 1, q, h => by
    have := markL_get (k := k + 4 * p.nodes) (show l[i]? = some q by simpa using h)
    simp only [markL, List.getElem?_cons_succ, this, List.take_succ_cons, Plan.nodesL]
    congr 2
    push_cast
    omega
theorem Plan.mark_cs (q : Plan) (k : Int) : (q.mark k).cs = [.val (.int .i64 k), .val (.int .i64 (k + 1)), .val (.int .i64 (k + 1 + 1)), .val (.bool (decide ((k + 1 + 1 + 1).tmod 3 = 0))), .sl ((markL q.ks (k + 1 + 1 + 1 + 1)).map Plan.cs)] := by
  cases q; rw [Plan.cs_eq, Plan.mark]; rfl
theorem Plan.mark_csV (q : Plan) (k : Int) (v : Value) : (q.mark k).csV v = [.val (.int .i64 k), .val (.int .i64 (k + 1)), .val (.int .i64 (k + 1 + 1)), .val (.bool (decide ((k + 1 + 1 + 1).tmod 3 = 0))), .val v] := by
  cases q; rfl
theorem nodesL_split (l : List Plan) (i : Nat) : Plan.nodesL l = Plan.nodesL (l.take i) + Plan.nodesL (l.drop i) := by
  rw [Plan.nodesL_sum, Plan.nodesL_sum, Plan.nodesL_sum, ← List.sum_append, ← List.map_append, List.take_append_drop]

theorem zw_set {α β γ : Type} (f : α → β → γ) : ∀ {l : List α} {m : List β} {i : Nat} {b : β} (x : α), m[i]? = some b → List.zipWith f (l.set i x) m = (List.zipWith f l m).set i (f x b)
  | [], _, _, _, _, _ => by simp
  | a :: l, [], _, _, _, h => by simp at h
  | a :: l, c :: m, 0, b, x, h => by simp at h; subst h; simp
  | a :: l, c :: m, i + 1, b, x, h => by simpa using zw_set f x (by simpa using h)
theorem rowsK_set {j0 : Nat} {es : List (List AV)} {kv : List Value} {i : Nat} {v : Value} (e : List AV) (h : kv[i]? = some v) : (rowsK j0 es kv).set i (e.set j0 (.val v)) = rowsK j0 (es.set i e) kv := by
  rw [rowsK, rowsK, zw_set _ _ h]
theorem itemsK_set {j0 : Nat} {es : List (List AV)} {kv : List Value} {i : Nat} {v : Value} (e : List AV) (h : kv[i]? = some v) : (itemsK j0 es kv).set i (v, e.getD j0 .any) = itemsK j0 (es.set i e) kv := by
  rw [itemsK, itemsK, zw_set _ _ h]

theorem e_markPlanS : Enters Try.prog 37 := enters_of Try.func37 (by kernel_rfl) (by kernel_rfl)
set_option maxRecDepth 8000 in
set_option maxHeartbeats 2000000 in
theorem markPlanS_of (l : List Plan) (hl : Plan.nodesL l ≤ 1048576) (H : ∀ q ∈ l, ∀ (k : Int) (v : Value) (S : Nat → Prop), 0 ≤ k ∧ k + 4 * Plan.nodesL q.ks ≤ 1125899906842624 → ACalls Try.prog 37 [.val v, .val (.int .i64 k)] [.forest S [(v, .sl (q.ks.map Plan.cs))]] [0] (fun r L => r = .val (.int .i64 (k + 4 * Plan.nodesL q.ks)) ∧ ∃ S', L = [.forest S' [(v, .sl ((markL q.ks k).map Plan.cs))]]))
    (k : Int) (hk : 0 ≤ k ∧ k + 4 * Plan.nodesL l ≤ 1125899906842624) (v : Value) (S : Nat → Prop) : ACalls Try.prog 37 [.val v, .val (.int .i64 k)] [.forest S [(v, .sl (l.map Plan.cs))]] [0] (fun r L => r = .val (.int .i64 (k + 4 * Plan.nodesL l)) ∧ ∃ S', L = [.forest S' [(v, .sl ((markL l k).map Plan.cs))]]) := by
  have hll := nodesL_ge (l := l) (i := 0) (Nat.zero_le _)
  simp only [List.take_zero, Plan.zero_len] at hll
  refine acalls_tm T_tt Try.func37 rfl e_markPlanS 48 rfl (W8 _ _ .any .any .any .any .any .any (W8 .any .any .any .any .any .any .any .any (W8 .any .any .any .any .any .any .any .any (W8 .any .any .any .any .any .any .any .any (W8 .any .any .any .any .any .any .any .any (W8 .any .any .any .any .any .any .any .any [.any, .any])))))) rfl (rv := [.tmp 4]) rfl ?_
  by_cases h0 : l = []
  · subst h0
    refine awp_wk (wk_empty 0 0 rfl rfl) (sx_sound (bl := []) T_tt _ _ _ ?_)
    simp (disch := omega) only [SX0, SX1, SX2, SX3, SX4, SX5, SX6, SX7, SX8, SU0, SY0, SY1, Nat.reduceAdd, Nat.reduceMul, Nat.reduceSub, Nat.reduceLeDiff, Nat.reduceEqDiff, Nat.reduceLT, Nat.reduceBEq, ↓reduceIte, Int.reduceLE, Int.reduceLT, Int.reduceToNat, Int.reduceNeg, reduceCtorEq, Int.reduceEq, SF0, SF1, SF2, DLa0, DCg0, DCe0, DCe1, DCe2, DDb0, DBc0, DBc1, DHa0, DHb0, DHb1]
    with_reducible refine awp_loop_h 0 0 (fun (i : Nat) => []) (fun i => [.forest S [(v, .sl [])]]) (fun i => i = 0) (fun i => 0) 0 rfl ?_ (fun i hi => sx_sound (bl := []) T_tt _ _ _ ?_)
    · simp (disch := omega) only [SX0, SX1, SX2, SX3, SX4, SX5, SX6, SX7, SX8, SU0, SY0, SY1, Nat.reduceAdd, Nat.reduceMul, Nat.reduceSub, Nat.reduceLeDiff, Nat.reduceEqDiff, Nat.reduceLT, Nat.reduceBEq, ↓reduceIte, Int.reduceLE, Int.reduceLT, Int.reduceToNat, Int.reduceNeg, reduceCtorEq, Int.reduceEq, SF0, SF1, SF2, DLa0, DCg0, DCe0, DCe1, DCe2, DDb0, DBc0, DBc1, DHa0, DHb0, DHb1]
      (refine wk_le ?_ ?_ ?_; (focus (simp [W8, leTm, leAV, AV.under, underL]; done)); (focus (simp [leL, OB.under, underL, AV.under]; done)); (focus (simp; done)))
    simp (disch := omega) only [SX0, SX1, SX2, SX3, SX4, SX5, SX6, SX7, SX8, SU0, SY0, SY1, Nat.reduceAdd, Nat.reduceMul, Nat.reduceSub, Nat.reduceLeDiff, Nat.reduceEqDiff, Nat.reduceLT, Nat.reduceBEq, ↓reduceIte, Int.reduceLE, Int.reduceLT, Int.reduceToNat, Int.reduceNeg, reduceCtorEq, Int.reduceEq, SF0, SF1, SF2, DLa0, DCg0, DCe0, DCe1, DCe2, DDb0, DBc0, DBc1, DHa0, DHb0, DHb1]
    refine br_dec (fun h => by simp at h) (fun h => ?_)
    simp (disch := omega) only [SX0, SX1, SX2, SX3, SX4, SX5, SX6, SX7, SX8, SU0, SY0, SY1, Nat.reduceAdd, Nat.reduceMul, Nat.reduceSub, Nat.reduceLeDiff, Nat.reduceEqDiff, Nat.reduceLT, Nat.reduceBEq, ↓reduceIte, Int.reduceLE, Int.reduceLT, Int.reduceToNat, Int.reduceNeg, reduceCtorEq, Int.reduceEq, SF0, SF1, SF2, DLa0, DCg0, DCe0, DCe1, DCe2, DDb0, DBc0, DBc1, DHa0, DHb0, DHb1]
    exact fin_zero (.val (.int .i64 k)) (.forest S [(v, .sl [])]) ⟨by simp [Plan.nodesL], S, rfl⟩ rfl rfl (by simp) (by simp)
  have hm : (markL l k).length = l.length := markL_len l k
  refine awp_ungraft (r := 0) 4 rfl (fun i j e x he hx hj => ?_) (fun i e he => ?_) fun kv S1 S2 hkv => ?_
  · rw [List.getElem?_map] at he
    cases hq : l[i]? with
    | none => simp [hq] at he
    | some q => simp [hq] at he; subst he; exact AV.exact_iff (q.exact4 j x hx hj)
  · rw [List.getElem?_map] at he
    cases hq : l[i]? with
    | none => simp [hq] at he
    | some q => simp [hq] at he; subst he; rw [Plan.len]; omega
  simp only [List.length_map] at hkv
  refine awp_open 0 0 5 rfl (plans_exact l kv) (fun i e he => ?_) (by rw [rowsK_len _ _ _ (by simp [hkv]), List.length_map]; exact List.length_pos_iff.2 h0) rfl (sx_sound (bl := []) T_tt _ _ _ ?_)
  · rw [rowsK, List.getElem?_zipWith] at he
    cases hq : l[i]? with
    | none => simp [hq] at he
    | some q =>
      cases hv : kv[i]? with
      | none => simp [hq, hv] at he
      | some v => simp [hq, hv] at he; subst he; simp [Plan.len]
  have hrl : (rowsK 4 (l.map Plan.cs) kv).length = l.length := by rw [rowsK_len _ _ _ (by simp [hkv])]; simp
  rw [hrl]
  simp (disch := omega) only [SX0, SX1, SX2, SX3, SX4, SX5, SX6, SX7, SX8, SU0, SY0, SY1, Nat.reduceAdd, Nat.reduceMul, Nat.reduceSub, Nat.reduceLeDiff, Nat.reduceEqDiff, Nat.reduceLT, Nat.reduceBEq, ↓reduceIte, Int.reduceLE, Int.reduceLT, Int.reduceToNat, Int.reduceNeg, reduceCtorEq, Int.reduceEq, SF0, SF1, SF2, DLa0, DCg0, DCe0, DCe1, DCe2, DDb0, DBc0, DBc1, DHa0, DHb0, DHb1, SX0]
  with_reducible refine awp_loop_h 6 44 (fun (g : Nat × (Nat → Prop)) => [(1, .val (.int .i64 (k + 4 * Plan.nodesL (l.take g.1)))), (5, .val (.int .i64 g.1))]) (fun g => [.vec 5 (rowsK 4 (mixR ((markL l k).map Plan.cs) (l.map Plan.cs) g.1) kv), .forest g.2 (itemsK 4 (mixR ((markL l k).map Plan.cs) (l.map Plan.cs) g.1) kv)]) (fun g => g.1 ≤ l.length) (fun g => l.length - g.1) (0, S2) (Nat.zero_le _) ?_ (fun g hi => sx_sound (bl := []) T_tt _ _ _ ?_)
  · simp (disch := omega) only [SX0, SX1, SX2, SX3, SX4, SX5, SX6, SX7, SX8, SU0, SY0, SY1, Nat.reduceAdd, Nat.reduceMul, Nat.reduceSub, Nat.reduceLeDiff, Nat.reduceEqDiff, Nat.reduceLT, Nat.reduceBEq, ↓reduceIte, Int.reduceLE, Int.reduceLT, Int.reduceToNat, Int.reduceNeg, reduceCtorEq, Int.reduceEq, SF0, SF1, SF2, DLa0, DCg0, DCe0, DCe1, DCe2, DDb0, DBc0, DBc1, DHa0, DHb0, DHb1]
    (refine wk_le ?_ ?_ ?_; (focus (simp [W8, leTm, leAV, AV.under, underL, mixR_zero, Plan.zero_len]; done)); (focus (simp [leL, OB.under, underL, AV.under, mixR_zero, Plan.zero_len]; done)); (focus (simp; done)))
  obtain ⟨i, S3⟩ := g
  simp only at hi
  simp (disch := omega) only [SX0, SX1, SX2, SX3, SX4, SX5, SX6, SX7, SX8, SU0, SY0, SY1, Nat.reduceAdd, Nat.reduceMul, Nat.reduceSub, Nat.reduceLeDiff, Nat.reduceEqDiff, Nat.reduceLT, Nat.reduceBEq, ↓reduceIte, Int.reduceLE, Int.reduceLT, Int.reduceToNat, Int.reduceNeg, reduceCtorEq, Int.reduceEq, SF0, SF1, SF2, DLa0, DCg0, DCe0, DCe1, DCe2, DDb0, DBc0, DBc1, DHa0, DHb0, DHb1]
  refine br_dec (fun h1 => ?_) (fun h1 => ?_)
  · obtain ⟨q, hq⟩ := get_lt (l := l) (i := i) (by omega)
    obtain ⟨u, hu⟩ := get_lt (l := kv) (i := i) (by omega)
    have hlm : ((markL l k).map Plan.cs).length = (l.map Plan.cs).length := by simp [hm]
    have hmi : (mixR ((markL l k).map Plan.cs) (l.map Plan.cs) i)[i]? = some q.cs := by rw [mixR_get hlm]; simp [hq]
    have hg : (rowsK 4 (mixR ((markL l k).map Plan.cs) (l.map Plan.cs) i) kv)[i]? = some [.val (.int .i64 q.op), .val (.int .i64 q.at_), .val (.int .i64 q.pa), .val (.bool q.tu), .val u] := by
      rw [rowsK, zw_get hmi hu, Plan.set4]; rfl
    have hit : (itemsK 4 (mixR ((markL l k).map Plan.cs) (l.map Plan.cs) i) kv)[i]? = some (u, .sl (q.ks.map Plan.cs)) := by
      rw [itemsK, zw_get hmi hu, Plan.get4]
    have hrl2 : (rowsK 4 (mixR ((markL l k).map Plan.cs) (l.map Plan.cs) i) kv).length = l.length := by rw [rowsK_len _ _ _ (by rw [mixR_len hlm]; simp [hkv]), mixR_len hlm]; simp
    have hset : ∀ x : List AV, ((rowsK 4 (mixR ((markL l k).map Plan.cs) (l.map Plan.cs) i) kv).set i x)[i]? = some x := fun x => List.getElem?_set_self (by omega)
    have hki : k + 4 * Plan.nodesL (l.take i) + 4 * q.nodes ≤ 1125899906842624 := by
      have h1 := nodesL_take hq
      have h2 := nodesL_split l (i + 1)
      omega
    have hqn := q.nodes_eq
    generalize hK : k + 4 * (Plan.nodesL (l.take i) : Int) = K at *
    have hM := markL_get (k := k) hq
    rw [hK] at hM
    have hnext := mixR_set hlm (i := i) (x := (q.mark K).cs) (by rw [List.getElem?_map, hM]; rfl)
    have hnr := rowsK_set (j0 := 4) (es := mixR ((markL l k).map Plan.cs) (l.map Plan.cs) i) (q.mark K).cs hu
    have hni := itemsK_set (j0 := 4) (es := mixR ((markL l k).map Plan.cs) (l.map Plan.cs) i) (q.mark K).cs hu
    rw [hnext, Plan.set4, Plan.mark_csV] at hnr
    rw [hnext, Plan.mark_cs] at hni
    simp only [List.getD_cons_succ, List.getD_cons_zero] at hni
    have h2t : ((i : Int) < (l.length : Int)) = True := eq_true h1
    have e : (K + 1 + 1 + 1 + 1 + 4 * (Plan.nodesL q.ks : Int)) = k + 4 * (Plan.nodesL (l.take (i + 1)) : Int) := by
      have h1 := nodesL_take hq
      omega
    simp (disch := omega) only [SX0, SX1, SX2, SX3, SX4, SX5, SX6, SX7, SX8, SU0, SY0, SY1, Nat.reduceAdd, Nat.reduceMul, Nat.reduceSub, Nat.reduceLeDiff, Nat.reduceEqDiff, Nat.reduceLT, Nat.reduceBEq, ↓reduceIte, Int.reduceLE, Int.reduceLT, Int.reduceToNat, Int.reduceNeg, reduceCtorEq, Int.reduceEq, SF0, SF1, SF2, DLa0, DCg0, DCe0, DCe1, DCe2, DDb0, DBc0, DBc1, DHa0, DHb0, DHb1, hg, hset, List.set_set, h2t]
    refine acall_item (fun S => H q (List.mem_of_getElem? hq) (K + 1 + 1 + 1 + 1) u S ⟨by omega, by omega⟩) 1 i rfl hit rfl fun S' => ?_
    simp only [hni, hnr]
    simp (disch := omega) only [SX0, SX1, SX2, SX3, SX4, SX5, SX6, SX7, SX8, SU0, SY0, SY1, Nat.reduceAdd, Nat.reduceMul, Nat.reduceSub, Nat.reduceLeDiff, Nat.reduceEqDiff, Nat.reduceLT, Nat.reduceBEq, ↓reduceIte, Int.reduceLE, Int.reduceLT, Int.reduceToNat, Int.reduceNeg, reduceCtorEq, Int.reduceEq, SF0, SF1, SF2, DLa0, DCg0, DCe0, DCe1, DCe2, DDb0, DBc0, DBc1, DHa0, DHb0, DHb1, SX0]
    rw [e]
    refine ⟨(i + 1, S'), by simp; omega, by simp; omega, ?_⟩
    (refine wk_le ?_ ?_ ?_; (focus (simp [W8, leTm, leAV, AV.under, underL]; done)); (focus (simp [leL, OB.under, underL, AV.under]; done)); (focus (simp; done)))
  · have hlm : ((markL l k).map Plan.cs).length = (l.map Plan.cs).length := by simp [hm]
    have hf : mixR ((markL l k).map Plan.cs) (l.map Plan.cs) i = (markL l k).map Plan.cs := mixR_full hlm (by simp; omega)
    have hi : l.take i = l := List.take_of_length_le (by omega)
    rw [hf, hi]
    simp (disch := omega) only [SX0, SX1, SX2, SX3, SX4, SX5, SX6, SX7, SX8, SU0, SY0, SY1, Nat.reduceAdd, Nat.reduceMul, Nat.reduceSub, Nat.reduceLeDiff, Nat.reduceEqDiff, Nat.reduceLT, Nat.reduceBEq, ↓reduceIte, Int.reduceLE, Int.reduceLT, Int.reduceToNat, Int.reduceNeg, reduceCtorEq, Int.reduceEq, SF0, SF1, SF2, DLa0, DCg0, DCe0, DCe1, DCe2, DDb0, DBc0, DBc1, DHa0, DHb0, DHb1]
    refine ⟨_, rfl, by rw [rowsK_len _ _ _ (by simp [hkv, hm])]; simp [hm], plans_exact _ kv, fun S' => ?_⟩
    simp (disch := omega) only [SX0, SX1, SX2, SX3, SX4, SX5, SX6, SX7, SX8, SU0, SY0, SY1, Nat.reduceAdd, Nat.reduceMul, Nat.reduceSub, Nat.reduceLeDiff, Nat.reduceEqDiff, Nat.reduceLT, Nat.reduceBEq, ↓reduceIte, Int.reduceLE, Int.reduceLT, Int.reduceToNat, Int.reduceNeg, reduceCtorEq, Int.reduceEq, SF0, SF1, SF2, DLa0, DCg0, DCe0, DCe1, DCe2, DDb0, DBc0, DBc1, DHa0, DHb0, DHb1, SX0]
    refine fin_graft (r := 0) (r2 := 1) (j0 := 4) (es := (markL l k).map Plan.cs) (kv := kv) (by decide) rfl rfl (by simp [hkv, hm]) fun S4 => ?_
    exact fin_zero (.val (.int .i64 (k + 4 * Plan.nodesL l))) (.forest S4 [(v, .sl ((markL l k).map Plan.cs))]) ⟨rfl, S4, rfl⟩ rfl rfl (by simp) (by simp)

theorem nodesL_kid : ∀ {l : List Plan} {q : Plan}, q ∈ l → q.nodes ≤ Plan.nodesL l
  | [], _, h => by cases h
  | p :: l, q, h => by
    rcases List.mem_cons.1 h with rfl | h
    · simp [Plan.nodesL]
    · have := nodesL_kid h; simp only [Plan.nodesL]; omega

theorem markPlanS_n : ∀ (n : Nat) (l : List Plan), Plan.nodesL l ≤ n → Plan.nodesL l ≤ 1048576 → ∀ (k : Int) (v : Value) (S : Nat → Prop), 0 ≤ k ∧ k + 4 * Plan.nodesL l ≤ 1125899906842624 →
    ACalls Try.prog 37 [.val v, .val (.int .i64 k)] [.forest S [(v, .sl (l.map Plan.cs))]] [0] (fun r L => r = .val (.int .i64 (k + 4 * Plan.nodesL l)) ∧ ∃ S', L = [.forest S' [(v, .sl ((markL l k).map Plan.cs))]]) := by
  intro n
  induction n with
  | zero =>
    intro l h hl k v S hk
    exact markPlanS_of l hl (fun q hq => by have := nodesL_kid hq; have := q.nodes_pos; omega) k hk v S
  | succ n ih =>
    intro l h hl k v S hk
    exact markPlanS_of l hl (fun q hq k v S hk => ih q.ks (by have := nodesL_kid hq; have := q.nodes_eq; omega) (by have := nodesL_kid hq; have := q.nodes_eq; omega) k v S hk) k hk v S
theorem markPlanS_f (l : List Plan) (hl : Plan.nodesL l ≤ 1048576) (k : Int) (hk : 0 ≤ k ∧ k + 4 * Plan.nodesL l ≤ 1125899906842624) (v : Value) (S : Nat → Prop) :
    ACalls Try.prog 37 [.val v, .val (.int .i64 k)] [.forest S [(v, .sl (l.map Plan.cs))]] [0] (fun r L => r = .val (.int .i64 (k + 4 * Plan.nodesL l)) ∧ ∃ S', L = [.forest S' [(v, .sl ((markL l k).map Plan.cs))]]) := markPlanS_n _ l (Nat.le_refl _) hl k v S hk

theorem e_markWork : Enters Try.prog 26 := enters_of Try.func26 (by kernel_rfl) (by kernel_rfl)
theorem markWork_f (w : Work) (hw : w.Ps.length ≤ 1048576) (k : Int) (hk : 0 ≤ k ∧ k ≤ 1125899906842624) (v : Value) (S : Nat → Prop) :
    ACalls Try.prog 26 [.agg (w.csV v), .val (.int .i64 k)] [.forest S [(v, .sl (w.Ps.map Pane.cs))]] [0] (fun r L => r = .val (.int .i64 (k + 4 * w.Ps.length)) ∧ ∃ S', L = [.forest S' [(v, .sl ((marks Pane.mk' 4 w.Ps.length k).map Pane.cs))]]) := by
  refine acalls_tm T_tt Try.func26 rfl e_markWork 8 rfl (W8 _ _ .any .any .any .any .any .any [.any, .any]) rfl (rv := [.tmp 4]) rfl (sx_sound (bl := []) T_tt _ _ _ ?_)
  simp (disch := omega) only [SX0, SX1, SX2, SX3, SX4, SX5, SX6, SX7, SX8, SU0, SY0, SY1, Nat.reduceAdd, Nat.reduceMul, Nat.reduceSub, Nat.reduceLeDiff, Nat.reduceEqDiff, Nat.reduceLT, Nat.reduceBEq, ↓reduceIte, Int.reduceLE, Int.reduceLT, Int.reduceToNat, Int.reduceNeg, reduceCtorEq, Int.reduceEq, SF0, SF1, SF2, DLa0, DCg0, DCe0, DCe1, DCe2, DDb0, DBc0, DBc1, DHa0, DHb0, DHb1, Work.csV]
  refine acall_item (fun S => markPaneS_f w.Ps hw k hk v S) 0 0 rfl rfl rfl fun S' => ?_
  simp (disch := omega) only [SX0, SX1, SX2, SX3, SX4, SX5, SX6, SX7, SX8, SU0, SY0, SY1, Nat.reduceAdd, Nat.reduceMul, Nat.reduceSub, Nat.reduceLeDiff, Nat.reduceEqDiff, Nat.reduceLT, Nat.reduceBEq, ↓reduceIte, Int.reduceLE, Int.reduceLT, Int.reduceToNat, Int.reduceNeg, reduceCtorEq, Int.reduceEq, SF0, SF1, SF2, DLa0, DCg0, DCe0, DCe1, DCe2, DDb0, DBc0, DBc1, DHa0, DHb0, DHb1, SX0]
  exact fin_zero (.val (.int .i64 (k + 4 * w.Ps.length))) (.forest S' [(v, .sl ((marks Pane.mk' 4 w.Ps.length k).map Pane.cs))]) ⟨rfl, S', rfl⟩ rfl rfl (by simp) (by simp)

theorem e_heldPlanS : Enters Try.prog 38 := enters_of Try.func38 (by kernel_rfl) (by kernel_rfl)
set_option maxRecDepth 8000 in
set_option maxHeartbeats 2000000 in
theorem heldPlanS_of (l : List Plan) (hl : Plan.nodesL l ≤ 1048576) (H : ∀ q ∈ l, ∀ (k : Int), 0 ≤ k ∧ k + 4 * Plan.nodesL q.ks ≤ 1125899906842624 → ACalls Try.prog 38 [.sl ((markL q.ks k).map Plan.cs), .val (.int .i64 k)] [] [] (fun r L => r = .val (.int .i64 (k + 4 * Plan.nodesL q.ks)) ∧ L = []))
    (k : Int) (hk : 0 ≤ k ∧ k + 4 * Plan.nodesL l ≤ 1125899906842624) : ACalls Try.prog 38 [.sl ((markL l k).map Plan.cs), .val (.int .i64 k)] [] [] (fun r L => r = .val (.int .i64 (k + 4 * Plan.nodesL l)) ∧ L = []) := by
  have hll := nodesL_ge (l := l) (i := 0) (Nat.zero_le _)
  simp only [List.take_zero, Plan.zero_len] at hll
  have hm : (markL l k).length = l.length := markL_len l k
  refine acalls_tm T_tt Try.func38 rfl e_heldPlanS 58 rfl (W8 _ _ .any .any .any .any .any .any (W8 .any .any .any .any .any .any .any .any (W8 .any .any .any .any .any .any .any .any (W8 .any .any .any .any .any .any .any .any (W8 .any .any .any .any .any .any .any .any (W8 .any .any .any .any .any .any .any .any (W8 .any .any .any .any .any .any .any .any [.any, .any, .any, .any]))))))) rfl (rv := [.tmp 4]) rfl (sx_sound (bl := []) T_tt _ _ _ ?_)
  simp (disch := omega) only [SX0, SX1, SX2, SX3, SX4, SX5, SX6, SX7, SX8, SU0, SY0, SY1, Nat.reduceAdd, Nat.reduceMul, Nat.reduceSub, Nat.reduceLeDiff, Nat.reduceEqDiff, Nat.reduceLT, Nat.reduceBEq, ↓reduceIte, Int.reduceLE, Int.reduceLT, Int.reduceToNat, Int.reduceNeg, reduceCtorEq, Int.reduceEq, SF0, SF1, SF2, DLa0, DCg0, DCe0, DCe1, DCe2, DDb0, DBc0, DBc1, DHa0, DHb0, DHb1]
  with_reducible refine awp_loop_h 6 54 (fun (i : Nat) => [(1, .val (.int .i64 (k + 4 * Plan.nodesL (l.take i)))), (5, .val (.int .i64 i))]) (fun i => []) (fun i => i ≤ l.length) (fun i => l.length - i) 0 (Nat.zero_le _) ?_ (fun i hi => sx_sound (bl := []) T_tt _ _ _ ?_)
  · simp (disch := omega) only [SX0, SX1, SX2, SX3, SX4, SX5, SX6, SX7, SX8, SU0, SY0, SY1, Nat.reduceAdd, Nat.reduceMul, Nat.reduceSub, Nat.reduceLeDiff, Nat.reduceEqDiff, Nat.reduceLT, Nat.reduceBEq, ↓reduceIte, Int.reduceLE, Int.reduceLT, Int.reduceToNat, Int.reduceNeg, reduceCtorEq, Int.reduceEq, SF0, SF1, SF2, DLa0, DCg0, DCe0, DCe1, DCe2, DDb0, DBc0, DBc1, DHa0, DHb0, DHb1]
    (refine wk_le ?_ ?_ ?_; (focus (simp [W8, leTm, leAV, AV.under, underL, Plan.zero_len]; done)); (focus (simp [leL, OB.under, underL, AV.under, Plan.zero_len]; done)); (focus (simp; done)))
  simp (disch := omega) only [SX0, SX1, SX2, SX3, SX4, SX5, SX6, SX7, SX8, SU0, SY0, SY1, Nat.reduceAdd, Nat.reduceMul, Nat.reduceSub, Nat.reduceLeDiff, Nat.reduceEqDiff, Nat.reduceLT, Nat.reduceBEq, ↓reduceIte, Int.reduceLE, Int.reduceLT, Int.reduceToNat, Int.reduceNeg, reduceCtorEq, Int.reduceEq, SF0, SF1, SF2, DLa0, DCg0, DCe0, DCe1, DCe2, DDb0, DBc0, DBc1, DHa0, DHb0, DHb1, hm]
  refine br_dec (fun h1 => ?_) (fun h1 => ?_)
  · obtain ⟨q, hq⟩ := get_lt (l := l) (i := i) (by omega)
    have hki : k + 4 * Plan.nodesL (l.take i) + 4 * q.nodes ≤ 1125899906842624 := by
      have h1 := nodesL_take hq
      have h2 := nodesL_split l (i + 1)
      omega
    have hqn := q.nodes_eq
    generalize hK : k + 4 * (Plan.nodesL (l.take i) : Int) = K at *
    have hM := markL_get (k := k) hq
    rw [hK] at hM
    have hg : ((markL l k).map Plan.cs)[i]? = some (q.mark K).cs := by rw [List.getElem?_map, hM]; rfl
    rw [Plan.mark_cs] at hg
    have h2t : ((i : Int) < (l.length : Int)) = True := eq_true h1
    have e : (K + 1 + 1 + 1 + 1 + 4 * (Plan.nodesL q.ks : Int)) = k + 4 * (Plan.nodesL (l.take (i + 1)) : Int) := by
      have h1 := nodesL_take hq
      omega
    simp (disch := omega) only [SX0, SX1, SX2, SX3, SX4, SX5, SX6, SX7, SX8, SU0, SY0, SY1, Nat.reduceAdd, Nat.reduceMul, Nat.reduceSub, Nat.reduceLeDiff, Nat.reduceEqDiff, Nat.reduceLT, Nat.reduceBEq, ↓reduceIte, Int.reduceLE, Int.reduceLT, Int.reduceToNat, Int.reduceNeg, reduceCtorEq, Int.reduceEq, SF0, SF1, SF2, DLa0, DCg0, DCe0, DCe1, DCe2, DDb0, DBc0, DBc1, DHa0, DHb0, DHb1, hg, h2t, hm]
    refine acall_one (H q (List.mem_of_getElem? hq) (K + 1 + 1 + 1 + 1) ⟨by omega, by omega⟩) rfl rfl ?_
    simp (disch := omega) only [SX0, SX1, SX2, SX3, SX4, SX5, SX6, SX7, SX8, SU0, SY0, SY1, Nat.reduceAdd, Nat.reduceMul, Nat.reduceSub, Nat.reduceLeDiff, Nat.reduceEqDiff, Nat.reduceLT, Nat.reduceBEq, ↓reduceIte, Int.reduceLE, Int.reduceLT, Int.reduceToNat, Int.reduceNeg, reduceCtorEq, Int.reduceEq, SF0, SF1, SF2, DLa0, DCg0, DCe0, DCe1, DCe2, DDb0, DBc0, DBc1, DHa0, DHb0, DHb1]
    refine br_dec (fun h => by omega) (fun h => ?_)
    simp (disch := omega) only [SX0, SX1, SX2, SX3, SX4, SX5, SX6, SX7, SX8, SU0, SY0, SY1, Nat.reduceAdd, Nat.reduceMul, Nat.reduceSub, Nat.reduceLeDiff, Nat.reduceEqDiff, Nat.reduceLT, Nat.reduceBEq, ↓reduceIte, Int.reduceLE, Int.reduceLT, Int.reduceToNat, Int.reduceNeg, reduceCtorEq, Int.reduceEq, SF0, SF1, SF2, DLa0, DCg0, DCe0, DCe1, DCe2, DDb0, DBc0, DBc1, DHa0, DHb0, DHb1]
    rw [e]
    refine ⟨i + 1, by omega, by omega, ?_⟩
    (refine wk_le ?_ ?_ ?_; (focus (simp [W8, leTm, leAV, AV.under, underL]; done)); (focus (simp [leL, OB.under, underL, AV.under]; done)); (focus (simp; done)))
  · have hi : l.take i = l := List.take_of_length_le (by omega)
    rw [hi]
    simp (disch := omega) only [SX0, SX1, SX2, SX3, SX4, SX5, SX6, SX7, SX8, SU0, SY0, SY1, Nat.reduceAdd, Nat.reduceMul, Nat.reduceSub, Nat.reduceLeDiff, Nat.reduceEqDiff, Nat.reduceLT, Nat.reduceBEq, ↓reduceIte, Int.reduceLE, Int.reduceLT, Int.reduceToNat, Int.reduceNeg, reduceCtorEq, Int.reduceEq, SF0, SF1, SF2, DLa0, DCg0, DCe0, DCe1, DCe2, DDb0, DBc0, DBc1, DHa0, DHb0, DHb1]
    exact fin_val ⟨rfl, rfl⟩

theorem heldPlanS_n : ∀ (n : Nat) (l : List Plan), Plan.nodesL l ≤ n → Plan.nodesL l ≤ 1048576 → ∀ (k : Int), 0 ≤ k ∧ k + 4 * Plan.nodesL l ≤ 1125899906842624 →
    ACalls Try.prog 38 [.sl ((markL l k).map Plan.cs), .val (.int .i64 k)] [] [] (fun r L => r = .val (.int .i64 (k + 4 * Plan.nodesL l)) ∧ L = []) := by
  intro n
  induction n with
  | zero =>
    intro l h hl k hk
    exact heldPlanS_of l hl (fun q hq => by have := nodesL_kid hq; have := q.nodes_pos; omega) k hk
  | succ n ih =>
    intro l h hl k hk
    exact heldPlanS_of l hl (fun q hq k hk => ih q.ks (by have := nodesL_kid hq; have := q.nodes_eq; omega) (by have := nodesL_kid hq; have := q.nodes_eq; omega) k hk) k hk

end Go.Pc

/- What the exact laws compare; calls that are handed a work and a plan with memory of their own. -/
namespace Go.Pc
open Go Go.Proofs

/-- What is handed over reads as the work and the plan. -/
theorem bor_work {L : List OB} (r : Nat) {S : Nat → Prop} {v : Value} {k : Work} (h : L[r]? = some (.forest S [(v, .sl (k.Ps.map Pane.cs))])) : Bor L (.agg (k.csV v)) (.agg k.cs) := by
  refine Bor.aggL (show BorL L [_, _, _] [_, _, _] from ⟨.free _ rfl, .free _ rfl, .item r 0 S _ v _ h rfl, trivial⟩)
end Go.Pc
