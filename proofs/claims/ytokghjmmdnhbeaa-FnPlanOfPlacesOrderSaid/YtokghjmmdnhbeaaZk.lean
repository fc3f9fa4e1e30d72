/- The laws of plans that are found from places in another order, and of mirrored places. -/
import Derived.Test.YtokghjmmdnhbeaaZj
import Derived.Test.YtokghjmmdnhbeaaIc
set_option linter.unusedSimpArgs false
set_option linter.unusedVariables false
namespace Go.Pc
open Go Go.Proofs

theorem placesOk_perm {k : Work} {l m : List Place} (h : placesOk k l) (hp : l.Perm m) : placesOk k m :=
  ⟨⟨h.1.1, by rw [← hp.length_eq]; exact h.1.2⟩, fun q hq => h.2.1 q (hp.mem_iff.2 hq), (List.Perm.pairwise_iff (R := fun a c : Box => ¬ a.meets c) (fun hab hm => hab (Box.meets_symm hm)) (hp.map _)).1 h.2.2⟩

/-- Both yield the same, also for the places in another order. -/
theorem both_plan (k : Work) (l : List Place) (hk : k.Ps.length < 2 ^ 40) (hl : l.length < 2 ^ 30) (hks : (-1000 ≤ k.W ∧ k.W ≤ 1000) ∧ (-1000 ≤ k.H ∧ k.H ≤ 1000)) : ∃ (p : Plan) (ok : Bool), p.wf = true ∧
    ACalls Try.prog 14 [.agg k.cs, .sl (l.map Place.cs)] [] [] (fun x L => x = .tup [.agg p.cs, .val (.bool ok)] ∧ L = []) ∧
    ∀ m, l.Perm m → ACalls Try.prog 11 [.agg k.cs, .sl (m.map Place.cs)] [] [] (fun x L => x = .tup [.agg p.cs, .val (.bool ok)] ∧ L = []) := by
  by_cases h : placesOk k l
  · obtain ⟨r, hr, A⟩ := planOfPlacesI_c k l hk h
    refine ⟨_, _, ?_, planOfPlacesS_c k l hk h hr, fun m hm => ?_⟩
    · cases r with
      | none => exact wf_zero
      | some p => exact (PF.valid h hr).1.2.1.1
    · obtain ⟨r', hr', A'⟩ := planOfPlacesI_c k m hk (placesOk_perm h hm)
      rw [(hr.perm hm).uniq hr']
      exact A'
  · refine ⟨_, _, wf_zero, planOfPlacesS_no k l hk hl hks h, fun m hm => planOfPlacesI_no k m hk (by rw [← hm.length_eq]; omega) fun hh => h (placesOk_perm hh hm.symm)⟩

theorem rev_next {l : List Place} {m : Nat} {q : Place} (h : l[l.length - 1 - m]? = some q) (hm : m < l.length) : l.reverse.take (m + 1) = l.reverse.take m ++ [q] := by
  rw [List.take_add_one, List.getElem?_reverse hm, h]; rfl

theorem e_fnPlanOfPlacesOrder : Enters Try.prog 5 := enters_of Try.func5 (by kernel_rfl) (by kernel_rfl)
set_option maxRecDepth 8000 in
set_option maxHeartbeats 4000000 in
theorem fnPlanOfPlacesOrder_c : LawC 5 := by
  intro xs hx hl
  refine acalls_tm T_tt Try.func5 rfl e_fnPlanOfPlacesOrder 71 rfl (W8 _ .any .any .any .any .any .any .any (W8 .any .any .any .any .any .any .any .any (W8 .any .any .any .any .any .any .any .any (W8 .any .any .any .any .any .any .any .any (W8 .any .any .any .any .any .any .any .any (W8 .any .any .any .any .any .any .any .any (W8 .any .any .any .any .any .any .any .any (W8 .any .any .any .any .any .any .any .any (W8 .any .any .any .any .any .any .any .any []))))))))) rfl (rv := [.tmp 2]) rfl (sx_sound (bl := [33]) T_tt _ _ _ ?_)
  simp (disch := omega) only [SX0, SX1, SX2, SX3, SX4, SX5, SX6, SX7, SX8, SU0, SY0, Nat.reduceAdd, Nat.reduceMul, Nat.reduceSub, Nat.reduceLeDiff, Nat.reduceEqDiff, Nat.reduceLT, Nat.reduceBEq, ↓reduceIte, Int.reduceLE, Int.reduceLT, Int.reduceToNat, Int.reduceNeg, reduceCtorEq, Int.reduceEq, SF0, SF1, SF2, DZc0, DWb0, DWa0, DLa0, DCg0, DCe0, DCe1, DCe2, DDb0, DBc0, DBc1, DKa0, DHb0, DHb1, DHa0, DDe0, DWc0, DAlh0, DPa0, bysLen]
  refine br_dec (fun h1 => ?_) (fun h1 => ?_)
  · simp (disch := omega) only [SX0, SX1, SX2, SX3, SX4, SX5, SX6, SX7, SX8, SU0, SY0, Nat.reduceAdd, Nat.reduceMul, Nat.reduceSub, Nat.reduceLeDiff, Nat.reduceEqDiff, Nat.reduceLT, Nat.reduceBEq, ↓reduceIte, Int.reduceLE, Int.reduceLT, Int.reduceToNat, Int.reduceNeg, reduceCtorEq, Int.reduceEq, SF0, SF1, SF2, DZc0, DWb0, DWa0, DLa0, DCg0, DCe0, DCe1, DCe2, DDb0, DBc0, DBc1, DKa0, DHb0, DHb1, DHa0, DDe0, DWc0, DAlh0, DPa0]
    exact fin_val ⟨rfl, rfl⟩
  simp (disch := omega) only [SX0, SX1, SX2, SX3, SX4, SX5, SX6, SX7, SX8, SU0, SY0, Nat.reduceAdd, Nat.reduceMul, Nat.reduceSub, Nat.reduceLeDiff, Nat.reduceEqDiff, Nat.reduceLT, Nat.reduceBEq, ↓reduceIte, Int.reduceLE, Int.reduceLT, Int.reduceToNat, Int.reduceNeg, reduceCtorEq, Int.reduceEq, SF0, SF1, SF2, DZc0, DWb0, DWa0, DLa0, DCg0, DCe0, DCe1, DCe2, DDb0, DBc0, DBc1, DKa0, DHb0, DHb1, DHa0, DDe0, DWc0, DAlh0, DPa0]
  refine acall_own (drawPlanOfPlaces_c xs hx) [] [] (by simp only [SX0, SX1, SX2, SX3, SX4, SX5, SX6, SX7, SX8, SU0, SY0, Nat.reduceAdd, Nat.reduceMul, Nat.reduceSub, Nat.reduceLeDiff, Nat.reduceEqDiff, Nat.reduceLT, Nat.reduceBEq, ↓reduceIte, Int.reduceLE, Int.reduceLT, Int.reduceToNat, Int.reduceNeg, reduceCtorEq, Int.reduceEq, SF0, SF1, SF2, DZc0, DWb0, DWa0, DLa0, DCg0, DCe0, DCe1, DCe2, DDb0, DBc0, DBc1, DKa0, DHb0, DHb1, DHa0, DDe0, DWc0, DAlh0, DPa0, SX0]) (by decide) (by decide) (by rfl) (by simp only [SX0, SX1, SX2, SX3, SX4, SX5, SX6, SX7, SX8, SU0, SY0, Nat.reduceAdd, Nat.reduceMul, Nat.reduceSub, Nat.reduceLeDiff, Nat.reduceEqDiff, Nat.reduceLT, Nat.reduceBEq, ↓reduceIte, Int.reduceLE, Int.reduceLT, Int.reduceToNat, Int.reduceNeg, reduceCtorEq, Int.reduceEq, SF0, SF1, SF2, DZc0, DWb0, DWa0, DLa0, DCg0, DCe0, DCe1, DCe2, DDb0, DBc0, DBc1, DKa0, DHb0, DHb1, DHa0, DDe0, DWc0, DAlh0, DPa0, SX0]) ?_
  rintro _ _ ⟨rfl, k, l, rfl, hk, hl, hn⟩
  have hk24 := hk.2.2.1
  have hkl : k.Ps.length < 2 ^ 40 := by omega
  obtain ⟨p, ok, hw, S, I⟩ := both_plan k l hkl (by omega) ⟨hk.1, hk.2.1⟩
  have E := equalPlan_c p hw
  simp (disch := omega) only [SX0, SX1, SX2, SX3, SX4, SX5, SX6, SX7, SX8, SU0, SY0, Nat.reduceAdd, Nat.reduceMul, Nat.reduceSub, Nat.reduceLeDiff, Nat.reduceEqDiff, Nat.reduceLT, Nat.reduceBEq, ↓reduceIte, Int.reduceLE, Int.reduceLT, Int.reduceToNat, Int.reduceNeg, reduceCtorEq, Int.reduceEq, SF0, SF1, SF2, DZc0, DWb0, DWa0, DLa0, DCg0, DCe0, DCe1, DCe2, DDb0, DBc0, DBc1, DKa0, DHb0, DHb1, DHa0, DDe0, DWc0, DAlh0, DPa0]
  refine acall_one (I l (List.Perm.refl l)) (by simp [freeL, AV.free, Work.free]) (by simp [AV.free, freeL, Plan.free]) ?_
  simp (disch := omega) only [SX0, SX1, SX2, SX3, SX4, SX5, SX6, SX7, SX8, SU0, SY0, Nat.reduceAdd, Nat.reduceMul, Nat.reduceSub, Nat.reduceLeDiff, Nat.reduceEqDiff, Nat.reduceLT, Nat.reduceBEq, ↓reduceIte, Int.reduceLE, Int.reduceLT, Int.reduceToNat, Int.reduceNeg, reduceCtorEq, Int.reduceEq, SF0, SF1, SF2, DZc0, DWb0, DWa0, DLa0, DCg0, DCe0, DCe1, DCe2, DDb0, DBc0, DBc1, DKa0, DHb0, DHb1, DHa0, DDe0, DWc0, DAlh0, DPa0]
  refine acall_one S (by simp [freeL, AV.free, Work.free]) (by simp [AV.free, freeL, Plan.free]) ?_
  simp (disch := omega) only [SX0, SX1, SX2, SX3, SX4, SX5, SX6, SX7, SX8, SU0, SY0, Nat.reduceAdd, Nat.reduceMul, Nat.reduceSub, Nat.reduceLeDiff, Nat.reduceEqDiff, Nat.reduceLT, Nat.reduceBEq, ↓reduceIte, Int.reduceLE, Int.reduceLT, Int.reduceToNat, Int.reduceNeg, reduceCtorEq, Int.reduceEq, SF0, SF1, SF2, DZc0, DWb0, DWa0, DLa0, DCg0, DCe0, DCe1, DCe2, DDb0, DBc0, DBc1, DKa0, DHb0, DHb1, DHa0, DDe0, DWc0, DAlh0, DPa0]
  with_reducible refine awp_loop_h (G := Nat) 11 61 (fun m => [(9, .os 3 6 0 m), (10, .val (.int .i64 (l.length - 1 - m)))]) (fun m => [.cells k.cs, .cells p.cs, .cells p.cs, .vec 6 ((l.reverse.take m).map Place.cs)]) (fun m => m ≤ l.length) (fun m => l.length - m) 0 (Nat.zero_le _) ?_ (fun m hm => sx_sound (bl := []) T_tt _ _ _ ?_)
  · simp (disch := omega) only [SX0, SX1, SX2, SX3, SX4, SX5, SX6, SX7, SX8, SU0, SY0, Nat.reduceAdd, Nat.reduceMul, Nat.reduceSub, Nat.reduceLeDiff, Nat.reduceEqDiff, Nat.reduceLT, Nat.reduceBEq, ↓reduceIte, Int.reduceLE, Int.reduceLT, Int.reduceToNat, Int.reduceNeg, reduceCtorEq, Int.reduceEq, SF0, SF1, SF2, DZc0, DWb0, DWa0, DLa0, DCg0, DCe0, DCe1, DCe2, DDb0, DBc0, DBc1, DKa0, DHb0, DHb1, DHa0, DDe0, DWc0, DAlh0, DPa0]
    (refine wk_le ?_ ?_ ?_; (focus (simp [W8, leTm, leAV, AV.under, underL, Work.under, Plan.under]; done)); (focus (simp [leL, OB.under, underL, AV.under, Work.under, Plan.under]; done)); (focus (simp; done)))
  simp (disch := omega) only [SX0, SX1, SX2, SX3, SX4, SX5, SX6, SX7, SX8, SU0, SY0, Nat.reduceAdd, Nat.reduceMul, Nat.reduceSub, Nat.reduceLeDiff, Nat.reduceEqDiff, Nat.reduceLT, Nat.reduceBEq, ↓reduceIte, Int.reduceLE, Int.reduceLT, Int.reduceToNat, Int.reduceNeg, reduceCtorEq, Int.reduceEq, SF0, SF1, SF2, DZc0, DWb0, DWa0, DLa0, DCg0, DCe0, DCe1, DCe2, DDb0, DBc0, DBc1, DKa0, DHb0, DHb1, DHa0, DDe0, DWc0, DAlh0, DPa0]
  refine br_dec (fun h2 => ?_) (fun h2 => ?_)
  · obtain ⟨q, hq⟩ := get_lt (l := l) (i := l.length - 1 - m) (by omega)
    have e : ((l.length : Int) - 1 - m).toNat = l.length - 1 - m := by omega
    have hrt : (l.reverse.take m).length = m := by rw [List.length_take, List.length_reverse]; omega
    have hnx := rev_next hq (by omega)
    simp (disch := omega) only [SX0, SX1, SX2, SX3, SX4, SX5, SX6, SX7, SX8, SU0, SY0, Nat.reduceAdd, Nat.reduceMul, Nat.reduceSub, Nat.reduceLeDiff, Nat.reduceEqDiff, Nat.reduceLT, Nat.reduceBEq, ↓reduceIte, Int.reduceLE, Int.reduceLT, Int.reduceToNat, Int.reduceNeg, reduceCtorEq, Int.reduceEq, SF0, SF1, SF2, DZc0, DWb0, DWa0, DLa0, DCg0, DCe0, DCe1, DCe2, DDb0, DBc0, DBc1, DKa0, DHb0, DHb1, DHa0, DDe0, DWc0, DAlh0, DPa0, hq, e]
    refine req (by omega) ?_
    simp (disch := omega) only [SX0, SX1, SX2, SX3, SX4, SX5, SX6, SX7, SX8, SU0, SY0, Nat.reduceAdd, Nat.reduceMul, Nat.reduceSub, Nat.reduceLeDiff, Nat.reduceEqDiff, Nat.reduceLT, Nat.reduceBEq, ↓reduceIte, Int.reduceLE, Int.reduceLT, Int.reduceToNat, Int.reduceNeg, reduceCtorEq, Int.reduceEq, SF0, SF1, SF2, DZc0, DWb0, DWa0, DLa0, DCg0, DCe0, DCe1, DCe2, DDb0, DBc0, DBc1, DKa0, DHb0, DHb1, DHa0, DDe0, DWc0, DAlh0, DPa0, hq, e]
    refine req (by omega) ?_
    simp (disch := omega) only [SX0, SX1, SX2, SX3, SX4, SX5, SX6, SX7, SX8, SU0, SY0, Nat.reduceAdd, Nat.reduceMul, Nat.reduceSub, Nat.reduceLeDiff, Nat.reduceEqDiff, Nat.reduceLT, Nat.reduceBEq, ↓reduceIte, Int.reduceLE, Int.reduceLT, Int.reduceToNat, Int.reduceNeg, reduceCtorEq, Int.reduceEq, SF0, SF1, SF2, DZc0, DWb0, DWa0, DLa0, DCg0, DCe0, DCe1, DCe2, DDb0, DBc0, DBc1, DKa0, DHb0, DHb1, DHa0, DDe0, DWc0, DAlh0, DPa0]
    have eI : (l.length : Int) - 1 - m - 1 = l.length - 1 - ((m + 1 : Nat) : Int) := by omega
    refine ⟨m + 1, by omega, by omega, ?_⟩
    (refine wk_le ?_ ?_ ?_; (focus (simp [W8, leTm, leAV, AV.under, underL, Work.under, Plan.under, hnx, eI]; done)); (focus (simp [leL, OB.under, underL, AV.under, Work.under, Plan.under, hnx, eI]; done)); (focus (simp; done)))
  · have hml : m = l.length := by omega
    subst hml
    have hrl : l.reverse.take l.length = l.reverse := List.take_of_length_le (by simp)
    have htk : List.take l.length (List.map Place.cs l.reverse) = List.map Place.cs l.reverse := List.take_of_length_le (by simp)
    have hlr : l.reverse.length = l.length := by simp
    rw [hrl]
    simp (disch := omega) only [SX0, SX1, SX2, SX3, SX4, SX5, SX6, SX7, SX8, SU0, SY0, Nat.reduceAdd, Nat.reduceMul, Nat.reduceSub, Nat.reduceLeDiff, Nat.reduceEqDiff, Nat.reduceLT, Nat.reduceBEq, ↓reduceIte, Int.reduceLE, Int.reduceLT, Int.reduceToNat, Int.reduceNeg, reduceCtorEq, Int.reduceEq, SF0, SF1, SF2, DZc0, DWb0, DWa0, DLa0, DCg0, DCe0, DCe1, DCe2, DDb0, DBc0, DBc1, DKa0, DHb0, DHb1, DHa0, DDe0, DWc0, DAlh0, DPa0]
    (refine acall_frz (r := 3) (k := 6) (es := l.reverse.map Place.cs) rfl (by simp) ?_; simp only [AS.frz, W8_map, List.map_cons, List.map_nil, AV.frz, OB.frz, frzL, if_true, if_false, Nat.reduceEqDiff, Nat.zero_add, true_and, List.length_map, List.drop_zero, List.set_cons_succ, List.set_cons_zero, Work.frzm, Plan.frzm, Nat.le_refl, htk, hlr])
    refine acall_one (I l.reverse (List.reverse_perm l).symm) (by simp [freeL, AV.free, Work.free]) (by simp [AV.free, freeL, Plan.free]) ?_
    simp (disch := omega) only [SX0, SX1, SX2, SX3, SX4, SX5, SX6, SX7, SX8, SU0, SY0, Nat.reduceAdd, Nat.reduceMul, Nat.reduceSub, Nat.reduceLeDiff, Nat.reduceEqDiff, Nat.reduceLT, Nat.reduceBEq, ↓reduceIte, Int.reduceLE, Int.reduceLT, Int.reduceToNat, Int.reduceNeg, reduceCtorEq, Int.reduceEq, SF0, SF1, SF2, DZc0, DWb0, DWa0, DLa0, DCg0, DCe0, DCe1, DCe2, DDb0, DBc0, DBc1, DKa0, DHb0, DHb1, DHa0, DDe0, DWc0, DAlh0, DPa0]
    refine acall_one E (by simp [freeL, AV.free, Plan.free]) rfl ?_
    simp (disch := omega) only [SX0, SX1, SX2, SX3, SX4, SX5, SX6, SX7, SX8, SU0, SY0, Nat.reduceAdd, Nat.reduceMul, Nat.reduceSub, Nat.reduceLeDiff, Nat.reduceEqDiff, Nat.reduceLT, Nat.reduceBEq, ↓reduceIte, Int.reduceLE, Int.reduceLT, Int.reduceToNat, Int.reduceNeg, reduceCtorEq, Int.reduceEq, SF0, SF1, SF2, DZc0, DWb0, DWa0, DLa0, DCg0, DCe0, DCe1, DCe2, DDb0, DBc0, DBc1, DKa0, DHb0, DHb1, DHa0, DDe0, DWc0, DAlh0, DPa0, eq_self, decide_true]
    refine acall_one E (by simp [freeL, AV.free, Plan.free]) rfl ?_
    simp (disch := omega) only [SX0, SX1, SX2, SX3, SX4, SX5, SX6, SX7, SX8, SU0, SY0, Nat.reduceAdd, Nat.reduceMul, Nat.reduceSub, Nat.reduceLeDiff, Nat.reduceEqDiff, Nat.reduceLT, Nat.reduceBEq, ↓reduceIte, Int.reduceLE, Int.reduceLT, Int.reduceToNat, Int.reduceNeg, reduceCtorEq, Int.reduceEq, SF0, SF1, SF2, DZc0, DWb0, DWa0, DLa0, DCg0, DCe0, DCe1, DCe2, DDb0, DBc0, DBc1, DKa0, DHb0, DHb1, DHa0, DDe0, DWc0, DAlh0, DPa0]
    exact fin_val ⟨rfl, rfl⟩

/-! ### Mirrored places -/

theorem mirW_mirW (w : Int) (q : Place) : (q.mirW w).mirW w = q := by
  obtain ⟨pa, tu, ⟨X, Y, W, H⟩⟩ := q
  simp [Place.mirW, Box.mirW]
  omega
theorem mirW_list (w : Int) (l : List Place) : (l.map (Place.mirW w)).map (Place.mirW w) = l := by
  rw [List.map_map]
  have : (Place.mirW w ∘ Place.mirW w) = id := by funext q; exact mirW_mirW w q
  rw [this]; simp
theorem sheet_mirW (k : Work) : k.sheet.mirW k.W = k.sheet := by
  unfold Work.sheet Box.mirW
  apply box_ext <;> simp only [] <;> omega
theorem meets_mirW {w : Int} {a c : Box} (ha : (a.mirW w).ok → a.ok) (hc : (c.mirW w).ok → c.ok) (h : (a.mirW w).meets (c.mirW w)) : a.meets c := by
  refine ⟨ha h.1, hc h.2.1, ?_⟩
  have := h.2.2
  unfold Box.meet Box.mirW at *
  simp only at *
  omega
theorem placesOk_mirW {k : Work} {l : List Place} (h : placesOk k l) : placesOk k (l.map (Place.mirW k.W)) := by
  have hk := h.1.1
  unfold Work.ok at hk
  refine ⟨⟨h.1.1, by simpa using h.1.2⟩, fun q hq => ?_, ?_⟩
  · obtain ⟨q', hq', e⟩ := List.mem_map.1 hq
    subst e
    obtain ⟨h1, h2, h3⟩ := h.2.1 q' hq'
    unfold Place.good Place.mirW Box.mirW
    simp only
    unfold Box.inside Box.ok Work.sheet at *
    simp only at *
    refine ⟨by omega, by omega, h3⟩
  · unfold apartL
    rw [List.map_map, List.pairwise_map]
    have h2 := h.2.2
    unfold apartL at h2
    rw [List.pairwise_map] at h2
    refine List.Pairwise.imp_of_mem (fun {a b} hma hmb hab hm => hab ?_) h2
    exact meets_mirW (fun _ => (h.2.1 a hma).1) (fun _ => (h.2.1 b hmb).1) hm
theorem mirW_ok {k : Work} {l : List Place} (h : placesOk k l) {r r' : Option Plan} (hr : PF l k.sheet r) (hr' : PF (l.map (Place.mirW k.W)) k.sheet r') : r'.isSome = r.isSome := by
  have h' := placesOk_mirW h
  have i1 := hr.iff (inside_InG fun q hq => (h.2.1 q hq).2.1)
  have i2 := hr'.iff (inside_InG fun q hq => (h'.2.1 q hq).2.1)
  have w1 : ∀ q ∈ l, 1 ≤ q.box.W := fun q hq => (h.2.1 q hq).1.1.1
  have w2 : ∀ q ∈ l.map (Place.mirW k.W), 1 ≤ q.box.W := fun q hq => (h'.2.1 q hq).1.1.1
  rw [Bool.eq_iff_iff, i1, i2]
  constructor
  · intro g
    have := g.mirW k.W w2
    rwa [mirW_list, sheet_mirW] at this
  · intro g
    have := g.mirW k.W w1
    rwa [sheet_mirW] at this

def mirTo (w : Int) (l : List Place) (i : Nat) : List Place := (l.take i).map (Place.mirW w) ++ l.drop i
theorem mirTo_len (w : Int) (l : List Place) {i : Nat} (h : i ≤ l.length) : (mirTo w l i).length = l.length := by simp [mirTo]; omega
theorem mirTo_get {w : Int} {l : List Place} {i : Nat} {q : Place} (h : l[i]? = some q) : (mirTo w l i)[i]? = some q := by
  have hi := (List.getElem?_eq_some_iff.1 h).1
  unfold mirTo
  rw [List.getElem?_append_right (by simp; omega)]
  simp [List.length_take, Nat.min_eq_left (Nat.le_of_lt hi), h]
theorem mirTo_set {w : Int} {l : List Place} {i : Nat} {q : Place} (h : l[i]? = some q) : (mirTo w l i).set i (q.mirW w) = mirTo w l (i + 1) := by
  have hi := (List.getElem?_eq_some_iff.1 h).1
  obtain ⟨_, rfl⟩ := List.getElem?_eq_some_iff.1 h
  have hlen : ((l.take i).map (Place.mirW w)).length = i := by simp; omega
  have hd : l.drop i = l[i] :: l.drop (i + 1) := List.drop_eq_getElem_cons hi
  unfold mirTo
  rw [List.set_append_right _ _ (by omega), hlen, Nat.sub_self, hd, List.set_cons_zero, List.take_add_one, h, List.map_append, List.append_assoc]
  rfl

theorem e_fnPlanOfPlacesMirror : Enters Try.prog 4 := enters_of Try.func4 (by kernel_rfl) (by kernel_rfl)
set_option maxRecDepth 8000 in
set_option maxHeartbeats 4000000 in
theorem fnPlanOfPlacesMirror_c : LawC 4 := by
  intro xs hx hl
  refine acalls_tm T_tt Try.func4 rfl e_fnPlanOfPlacesMirror 94 rfl (W8 _ .any .any .any .any .any .any .any (W8 .any .any .any .any .any .any .any .any (W8 .any .any .any .any .any .any .any .any (W8 .any .any .any .any .any .any .any .any (W8 .any .any .any .any .any .any .any .any (W8 .any .any .any .any .any .any .any .any (W8 .any .any .any .any .any .any .any .any (W8 .any .any .any .any .any .any .any .any (W8 .any .any .any .any .any .any .any .any (W8 .any .any .any .any .any .any .any .any (W8 .any .any .any .any .any .any .any .any [.any, .any, .any, .any, .any, .any, .any]))))))))))) rfl (rv := [.tmp 2]) rfl (sx_sound (bl := [56]) T_tt _ _ _ ?_)
  simp (disch := omega) only [SX0, SX1, SX2, SX3, SX4, SX5, SX6, SX7, SX8, SU0, SY0, Nat.reduceAdd, Nat.reduceMul, Nat.reduceSub, Nat.reduceLeDiff, Nat.reduceEqDiff, Nat.reduceLT, Nat.reduceBEq, ↓reduceIte, Int.reduceLE, Int.reduceLT, Int.reduceToNat, Int.reduceNeg, reduceCtorEq, Int.reduceEq, SF0, SF1, SF2, DZc0, DWb0, DWa0, DLa0, DCg0, DCe0, DCe1, DCe2, DDb0, DBc0, DBc1, DKa0, DHb0, DHb1, DHa0, DDe0, DWc0, DAlh0, DPa0, bysLen]
  refine br_dec (fun h1 => ?_) (fun h1 => ?_)
  · simp (disch := omega) only [SX0, SX1, SX2, SX3, SX4, SX5, SX6, SX7, SX8, SU0, SY0, Nat.reduceAdd, Nat.reduceMul, Nat.reduceSub, Nat.reduceLeDiff, Nat.reduceEqDiff, Nat.reduceLT, Nat.reduceBEq, ↓reduceIte, Int.reduceLE, Int.reduceLT, Int.reduceToNat, Int.reduceNeg, reduceCtorEq, Int.reduceEq, SF0, SF1, SF2, DZc0, DWb0, DWa0, DLa0, DCg0, DCe0, DCe1, DCe2, DDb0, DBc0, DBc1, DKa0, DHb0, DHb1, DHa0, DDe0, DWc0, DAlh0, DPa0]
    exact fin_val ⟨rfl, rfl⟩
  simp (disch := omega) only [SX0, SX1, SX2, SX3, SX4, SX5, SX6, SX7, SX8, SU0, SY0, Nat.reduceAdd, Nat.reduceMul, Nat.reduceSub, Nat.reduceLeDiff, Nat.reduceEqDiff, Nat.reduceLT, Nat.reduceBEq, ↓reduceIte, Int.reduceLE, Int.reduceLT, Int.reduceToNat, Int.reduceNeg, reduceCtorEq, Int.reduceEq, SF0, SF1, SF2, DZc0, DWb0, DWa0, DLa0, DCg0, DCe0, DCe1, DCe2, DDb0, DBc0, DBc1, DKa0, DHb0, DHb1, DHa0, DDe0, DWc0, DAlh0, DPa0]
  refine acall_own (drawPlanOfPlaces_c xs hx) [] [] (by simp only [SX0, SX1, SX2, SX3, SX4, SX5, SX6, SX7, SX8, SU0, SY0, Nat.reduceAdd, Nat.reduceMul, Nat.reduceSub, Nat.reduceLeDiff, Nat.reduceEqDiff, Nat.reduceLT, Nat.reduceBEq, ↓reduceIte, Int.reduceLE, Int.reduceLT, Int.reduceToNat, Int.reduceNeg, reduceCtorEq, Int.reduceEq, SF0, SF1, SF2, DZc0, DWb0, DWa0, DLa0, DCg0, DCe0, DCe1, DCe2, DDb0, DBc0, DBc1, DKa0, DHb0, DHb1, DHa0, DDe0, DWc0, DAlh0, DPa0, SX0]) (by decide) (by decide) (by rfl) (by simp only [SX0, SX1, SX2, SX3, SX4, SX5, SX6, SX7, SX8, SU0, SY0, Nat.reduceAdd, Nat.reduceMul, Nat.reduceSub, Nat.reduceLeDiff, Nat.reduceEqDiff, Nat.reduceLT, Nat.reduceBEq, ↓reduceIte, Int.reduceLE, Int.reduceLT, Int.reduceToNat, Int.reduceNeg, reduceCtorEq, Int.reduceEq, SF0, SF1, SF2, DZc0, DWb0, DWa0, DLa0, DCg0, DCe0, DCe1, DCe2, DDb0, DBc0, DBc1, DKa0, DHb0, DHb1, DHa0, DDe0, DWc0, DAlh0, DPa0, SX0]) ?_
  rintro _ _ ⟨rfl, k, l, rfl, hk, hl, hn⟩
  have hk24 := hk.2.2.1
  have hkl : k.Ps.length < 2 ^ 40 := by omega
  have V := validPlacesI_c k l hkl (by omega)
  by_cases h : placesOk k l
  · obtain ⟨r, hr, I⟩ := planOfPlacesI_c k l hkl h
    obtain ⟨r', hr', I'⟩ := planOfPlacesI_c k _ hkl (placesOk_mirW h)
    have S := planOfPlacesS_c k l hkl h hr
    have hso := mirW_ok h hr hr'
    have hw : (r.getD .zero).wf = true := by
      cases r with
      | none => exact wf_zero
      | some p => exact (PF.valid h hr).1.2.1.1
    have E := equalPlan_c _ hw
    rw [hso] at I'
    rw [decide_eq_true h] at V
    have hkW := h.1.1.1
    have hgood := h.2.1
    have hml : (l.map (Place.mirW k.W)).length = l.length := by simp
    generalize r.getD .zero = p at *
    generalize r'.getD .zero = p' at *
    generalize r.isSome = ok at *
    simp (disch := omega) only [SX0, SX1, SX2, SX3, SX4, SX5, SX6, SX7, SX8, SU0, SY0, Nat.reduceAdd, Nat.reduceMul, Nat.reduceSub, Nat.reduceLeDiff, Nat.reduceEqDiff, Nat.reduceLT, Nat.reduceBEq, ↓reduceIte, Int.reduceLE, Int.reduceLT, Int.reduceToNat, Int.reduceNeg, reduceCtorEq, Int.reduceEq, SF0, SF1, SF2, DZc0, DWb0, DWa0, DLa0, DCg0, DCe0, DCe1, DCe2, DDb0, DBc0, DBc1, DKa0, DHb0, DHb1, DHa0, DDe0, DWc0, DAlh0, DPa0]
    refine acall_one I (by simp [freeL, AV.free, Work.free]) (by simp [AV.free, freeL, Plan.free]) ?_
    simp (disch := omega) only [SX0, SX1, SX2, SX3, SX4, SX5, SX6, SX7, SX8, SU0, SY0, Nat.reduceAdd, Nat.reduceMul, Nat.reduceSub, Nat.reduceLeDiff, Nat.reduceEqDiff, Nat.reduceLT, Nat.reduceBEq, ↓reduceIte, Int.reduceLE, Int.reduceLT, Int.reduceToNat, Int.reduceNeg, reduceCtorEq, Int.reduceEq, SF0, SF1, SF2, DZc0, DWb0, DWa0, DLa0, DCg0, DCe0, DCe1, DCe2, DDb0, DBc0, DBc1, DKa0, DHb0, DHb1, DHa0, DDe0, DWc0, DAlh0, DPa0]
    refine acall_one S (by simp [freeL, AV.free, Work.free]) (by simp [AV.free, freeL, Plan.free]) ?_
    simp (disch := omega) only [SX0, SX1, SX2, SX3, SX4, SX5, SX6, SX7, SX8, SU0, SY0, Nat.reduceAdd, Nat.reduceMul, Nat.reduceSub, Nat.reduceLeDiff, Nat.reduceEqDiff, Nat.reduceLT, Nat.reduceBEq, ↓reduceIte, Int.reduceLE, Int.reduceLT, Int.reduceToNat, Int.reduceNeg, reduceCtorEq, Int.reduceEq, SF0, SF1, SF2, DZc0, DWb0, DWa0, DLa0, DCg0, DCe0, DCe1, DCe2, DDb0, DBc0, DBc1, DKa0, DHb0, DHb1, DHa0, DDe0, DWc0, DAlh0, DPa0]
    refine acall_one E (by simp [freeL, AV.free, Plan.free]) rfl ?_
    simp (disch := omega) only [SX0, SX1, SX2, SX3, SX4, SX5, SX6, SX7, SX8, SU0, SY0, Nat.reduceAdd, Nat.reduceMul, Nat.reduceSub, Nat.reduceLeDiff, Nat.reduceEqDiff, Nat.reduceLT, Nat.reduceBEq, ↓reduceIte, Int.reduceLE, Int.reduceLT, Int.reduceToNat, Int.reduceNeg, reduceCtorEq, Int.reduceEq, SF0, SF1, SF2, DZc0, DWb0, DWa0, DLa0, DCg0, DCe0, DCe1, DCe2, DDb0, DBc0, DBc1, DKa0, DHb0, DHb1, DHa0, DDe0, DWc0, DAlh0, DPa0, eq_self, ne_eq, not_true, decide_false]
    refine acall_one V (by simp [freeL, AV.free, Work.free]) rfl ?_
    simp (disch := omega) only [SX0, SX1, SX2, SX3, SX4, SX5, SX6, SX7, SX8, SU0, SY0, Nat.reduceAdd, Nat.reduceMul, Nat.reduceSub, Nat.reduceLeDiff, Nat.reduceEqDiff, Nat.reduceLT, Nat.reduceBEq, ↓reduceIte, Int.reduceLE, Int.reduceLT, Int.reduceToNat, Int.reduceNeg, reduceCtorEq, Int.reduceEq, SF0, SF1, SF2, DZc0, DWb0, DWa0, DLa0, DCg0, DCe0, DCe1, DCe2, DDb0, DBc0, DBc1, DKa0, DHb0, DHb1, DHa0, DDe0, DWc0, DAlh0, DPa0]
    refine req placeRows ?_
    simp (disch := omega) only [SX0, SX1, SX2, SX3, SX4, SX5, SX6, SX7, SX8, SU0, SY0, Nat.reduceAdd, Nat.reduceMul, Nat.reduceSub, Nat.reduceLeDiff, Nat.reduceEqDiff, Nat.reduceLT, Nat.reduceBEq, ↓reduceIte, Int.reduceLE, Int.reduceLT, Int.reduceToNat, Int.reduceNeg, reduceCtorEq, Int.reduceEq, SF0, SF1, SF2, DZc0, DWb0, DWa0, DLa0, DCg0, DCe0, DCe1, DCe2, DDb0, DBc0, DBc1, DKa0, DHb0, DHb1, DHa0, DDe0, DWc0, DAlh0, DPa0]
    refine req (by omega) ?_
    simp (disch := omega) only [SX0, SX1, SX2, SX3, SX4, SX5, SX6, SX7, SX8, SU0, SY0, Nat.reduceAdd, Nat.reduceMul, Nat.reduceSub, Nat.reduceLeDiff, Nat.reduceEqDiff, Nat.reduceLT, Nat.reduceBEq, ↓reduceIte, Int.reduceLE, Int.reduceLT, Int.reduceToNat, Int.reduceNeg, reduceCtorEq, Int.reduceEq, SF0, SF1, SF2, DZc0, DWb0, DWa0, DLa0, DCg0, DCe0, DCe1, DCe2, DDb0, DBc0, DBc1, DKa0, DHb0, DHb1, DHa0, DDe0, DWc0, DAlh0, DPa0]
    with_reducible refine awp_loop_h (G := Nat) 11 84 (fun i => [(9, .os 3 6 0 l.length), (10, .val (.int .i64 i))]) (fun i => [.cells k.cs, .cells p.cs, .cells p.cs, .vec 6 ((mirTo k.W l i).map Place.cs)]) (fun i => i ≤ l.length) (fun i => l.length - i) 0 (Nat.zero_le _) ?_ (fun i hi => sx_sound (bl := []) T_tt _ _ _ ?_)
    · simp (disch := omega) only [SX0, SX1, SX2, SX3, SX4, SX5, SX6, SX7, SX8, SU0, SY0, Nat.reduceAdd, Nat.reduceMul, Nat.reduceSub, Nat.reduceLeDiff, Nat.reduceEqDiff, Nat.reduceLT, Nat.reduceBEq, ↓reduceIte, Int.reduceLE, Int.reduceLT, Int.reduceToNat, Int.reduceNeg, reduceCtorEq, Int.reduceEq, SF0, SF1, SF2, DZc0, DWb0, DWa0, DLa0, DCg0, DCe0, DCe1, DCe2, DDb0, DBc0, DBc1, DKa0, DHb0, DHb1, DHa0, DDe0, DWc0, DAlh0, DPa0]
      have e0 : mirTo k.W l 0 = l := by simp [mirTo]
      (refine wk_le ?_ ?_ ?_; (focus (simp [W8, leTm, leAV, AV.under, underL, Work.under, Plan.under, e0]; done)); (focus (simp [leL, OB.under, underL, AV.under, Work.under, Plan.under, e0]; done)); (focus (simp; done)))
    simp (disch := omega) only [SX0, SX1, SX2, SX3, SX4, SX5, SX6, SX7, SX8, SU0, SY0, Nat.reduceAdd, Nat.reduceMul, Nat.reduceSub, Nat.reduceLeDiff, Nat.reduceEqDiff, Nat.reduceLT, Nat.reduceBEq, ↓reduceIte, Int.reduceLE, Int.reduceLT, Int.reduceToNat, Int.reduceNeg, reduceCtorEq, Int.reduceEq, SF0, SF1, SF2, DZc0, DWb0, DWa0, DLa0, DCg0, DCe0, DCe1, DCe2, DDb0, DBc0, DBc1, DKa0, DHb0, DHb1, DHa0, DDe0, DWc0, DAlh0, DPa0]
    refine br_dec (fun h2 => ?_) (fun h2 => ?_)
    · obtain ⟨q, hq⟩ := get_lt (l := l) (i := i) (by omega)
      have hqg := (hgood q (List.mem_of_getElem? hq)).1
      unfold Box.ok at hqg
      have hm := mirTo_get (w := k.W) hq
      have hmi := mirTo_len k.W l hi
      simp (disch := omega) only [SX0, SX1, SX2, SX3, SX4, SX5, SX6, SX7, SX8, SU0, SY0, Nat.reduceAdd, Nat.reduceMul, Nat.reduceSub, Nat.reduceLeDiff, Nat.reduceEqDiff, Nat.reduceLT, Nat.reduceBEq, ↓reduceIte, Int.reduceLE, Int.reduceLT, Int.reduceToNat, Int.reduceNeg, reduceCtorEq, Int.reduceEq, SF0, SF1, SF2, DZc0, DWb0, DWa0, DLa0, DCg0, DCe0, DCe1, DCe2, DDb0, DBc0, DBc1, DKa0, DHb0, DHb1, DHa0, DDe0, DWc0, DAlh0, DPa0]
      refine awp_floatG (bl := []) T_tt mixed [0, 1, 2, 3] [0, 1, 2, 3, 4, 5, 6, 7, 8, 9, 10, 11, 12, 13, 14, 15, 16, 17, 18, 19, 20] [0, 1, 2, 3, 4, 5, 6, 7, 8, 9, 10, 11, 12, 13, 14, 15, 16, 17, 18, 19, 20] [⟨21, [0, 1, 2, 3], [(0, .f 65), (1, .f 66), (2, .f 67), (3, .f 68), (4, .f 69), (5, .f 70), (6, .f 71), (7, .f 72), (8, .f 73), (9, .f 74), (10, .f 75), (11, .f 76), (12, .f 77), (13, .f 78), (14, .f 79), (15, .f 80), (16, .f 81), (17, .f 82), (18, .f 83), (19, .f 84), (20, .f 85)], [], []⟩] [] (by kernel_rfl) (by kernel_rfl) ?_
      simp (disch := omega) only [SX0, SX1, SX2, SX3, SX4, SX5, SX6, SX7, SX8, SU0, SY0, Nat.reduceAdd, Nat.reduceMul, Nat.reduceSub, Nat.reduceLeDiff, Nat.reduceEqDiff, Nat.reduceLT, Nat.reduceBEq, ↓reduceIte, Int.reduceLE, Int.reduceLT, Int.reduceToNat, Int.reduceNeg, reduceCtorEq, Int.reduceEq, SF0, SF1, SF2, DZc0, DWb0, DWa0, DLa0, DCg0, DCe0, DCe1, DCe2, DDb0, DBc0, DBc1, DKa0, DHb0, DHb1, DHa0, DDe0, DWc0, DAlh0, DPa0, SX0, hm, hmi]
      refine req (by omega) ?_
      simp (disch := omega) only [SX0, SX1, SX2, SX3, SX4, SX5, SX6, SX7, SX8, SU0, SY0, Nat.reduceAdd, Nat.reduceMul, Nat.reduceSub, Nat.reduceLeDiff, Nat.reduceEqDiff, Nat.reduceLT, Nat.reduceBEq, ↓reduceIte, Int.reduceLE, Int.reduceLT, Int.reduceToNat, Int.reduceNeg, reduceCtorEq, Int.reduceEq, SF0, SF1, SF2, DZc0, DWb0, DWa0, DLa0, DCg0, DCe0, DCe1, DCe2, DDb0, DBc0, DBc1, DKa0, DHb0, DHb1, DHa0, DDe0, DWc0, DAlh0, DPa0, SX0, hm, hmi]
      refine req (by omega) ?_
      simp (disch := omega) only [SX0, SX1, SX2, SX3, SX4, SX5, SX6, SX7, SX8, SU0, SY0, Nat.reduceAdd, Nat.reduceMul, Nat.reduceSub, Nat.reduceLeDiff, Nat.reduceEqDiff, Nat.reduceLT, Nat.reduceBEq, ↓reduceIte, Int.reduceLE, Int.reduceLT, Int.reduceToNat, Int.reduceNeg, reduceCtorEq, Int.reduceEq, SF0, SF1, SF2, DZc0, DWb0, DWa0, DLa0, DCg0, DCe0, DCe1, DCe2, DDb0, DBc0, DBc1, DKa0, DHb0, DHb1, DHa0, DDe0, DWc0, DAlh0, DPa0, SX0, hm, hmi]
      refine req (by omega) ?_
      simp (disch := omega) only [SX0, SX1, SX2, SX3, SX4, SX5, SX6, SX7, SX8, SU0, SY0, Nat.reduceAdd, Nat.reduceMul, Nat.reduceSub, Nat.reduceLeDiff, Nat.reduceEqDiff, Nat.reduceLT, Nat.reduceBEq, ↓reduceIte, Int.reduceLE, Int.reduceLT, Int.reduceToNat, Int.reduceNeg, reduceCtorEq, Int.reduceEq, SF0, SF1, SF2, DZc0, DWb0, DWa0, DLa0, DCg0, DCe0, DCe1, DCe2, DDb0, DBc0, DBc1, DKa0, DHb0, DHb1, DHa0, DDe0, DWc0, DAlh0, DPa0, SX0, hm, hmi]
      have ec : (List.take 2 q.cs ++ [AV.val (.int .i64 (k.W - q.box.X - q.box.W))] ++ List.drop 3 q.cs) = (q.mirW k.W).cs := rfl
      have es : (List.map Place.cs (mirTo k.W l i)).set i (q.mirW k.W).cs = List.map Place.cs (mirTo k.W l (i + 1)) := by rw [← mirTo_set hq, List.map_set]
      refine ⟨i + 1, by omega, by omega, ?_⟩
      (refine wk_le ?_ ?_ ?_; (focus (simp [W8, leTm, leAV, AV.under, underL, Work.under, Plan.under, ec, es]; done)); (focus (simp [leL, OB.under, underL, AV.under, Work.under, Plan.under, ec, es]; done)); (focus (simp; done)))
    · have hil : i = l.length := by omega
      subst hil
      have em : mirTo k.W l l.length = l.map (Place.mirW k.W) := by simp [mirTo]
      have htk : List.take l.length (List.map Place.cs (l.map (Place.mirW k.W))) = List.map Place.cs (l.map (Place.mirW k.W)) := List.take_of_length_le (by simp)
      rw [em]
      generalize l.map (Place.mirW k.W) = m at *
      simp (disch := omega) only [SX0, SX1, SX2, SX3, SX4, SX5, SX6, SX7, SX8, SU0, SY0, Nat.reduceAdd, Nat.reduceMul, Nat.reduceSub, Nat.reduceLeDiff, Nat.reduceEqDiff, Nat.reduceLT, Nat.reduceBEq, ↓reduceIte, Int.reduceLE, Int.reduceLT, Int.reduceToNat, Int.reduceNeg, reduceCtorEq, Int.reduceEq, SF0, SF1, SF2, DZc0, DWb0, DWa0, DLa0, DCg0, DCe0, DCe1, DCe2, DDb0, DBc0, DBc1, DKa0, DHb0, DHb1, DHa0, DDe0, DWc0, DAlh0, DPa0]
      (refine acall_frz (r := 3) (k := 6) (es := m.map Place.cs) rfl (by simp) ?_; simp only [AS.frz, W8_map, List.map_cons, List.map_nil, AV.frz, OB.frz, frzL, if_true, if_false, Nat.reduceEqDiff, Nat.zero_add, true_and, List.length_map, List.drop_zero, List.set_cons_succ, List.set_cons_zero, Work.frzm, Plan.frzm, Nat.le_refl, htk, hml])
      refine acall_one I' (by simp [freeL, AV.free, Work.free]) (by simp [AV.free, freeL, Plan.free]) ?_
      simp (disch := omega) only [SX0, SX1, SX2, SX3, SX4, SX5, SX6, SX7, SX8, SU0, SY0, Nat.reduceAdd, Nat.reduceMul, Nat.reduceSub, Nat.reduceLeDiff, Nat.reduceEqDiff, Nat.reduceLT, Nat.reduceBEq, ↓reduceIte, Int.reduceLE, Int.reduceLT, Int.reduceToNat, Int.reduceNeg, reduceCtorEq, Int.reduceEq, SF0, SF1, SF2, DZc0, DWb0, DWa0, DLa0, DCg0, DCe0, DCe1, DCe2, DDb0, DBc0, DBc1, DKa0, DHb0, DHb1, DHa0, DDe0, DWc0, DAlh0, DPa0]
      exact fin_val ⟨by simp, rfl⟩
  · have I := planOfPlacesI_no k l hkl (by omega) h
    have S := planOfPlacesS_no k l hkl (by omega) ⟨hk.1, hk.2.1⟩ h
    have E := equalPlan_c _ wf_zero
    rw [decide_eq_false h] at V
    simp (disch := omega) only [SX0, SX1, SX2, SX3, SX4, SX5, SX6, SX7, SX8, SU0, SY0, Nat.reduceAdd, Nat.reduceMul, Nat.reduceSub, Nat.reduceLeDiff, Nat.reduceEqDiff, Nat.reduceLT, Nat.reduceBEq, ↓reduceIte, Int.reduceLE, Int.reduceLT, Int.reduceToNat, Int.reduceNeg, reduceCtorEq, Int.reduceEq, SF0, SF1, SF2, DZc0, DWb0, DWa0, DLa0, DCg0, DCe0, DCe1, DCe2, DDb0, DBc0, DBc1, DKa0, DHb0, DHb1, DHa0, DDe0, DWc0, DAlh0, DPa0]
    refine acall_one I (by simp [freeL, AV.free, Work.free]) (by simp [AV.free, freeL, Plan.free]) ?_
    simp (disch := omega) only [SX0, SX1, SX2, SX3, SX4, SX5, SX6, SX7, SX8, SU0, SY0, Nat.reduceAdd, Nat.reduceMul, Nat.reduceSub, Nat.reduceLeDiff, Nat.reduceEqDiff, Nat.reduceLT, Nat.reduceBEq, ↓reduceIte, Int.reduceLE, Int.reduceLT, Int.reduceToNat, Int.reduceNeg, reduceCtorEq, Int.reduceEq, SF0, SF1, SF2, DZc0, DWb0, DWa0, DLa0, DCg0, DCe0, DCe1, DCe2, DDb0, DBc0, DBc1, DKa0, DHb0, DHb1, DHa0, DDe0, DWc0, DAlh0, DPa0]
    refine acall_one S (by simp [freeL, AV.free, Work.free]) (by simp [AV.free, freeL, Plan.free]) ?_
    simp (disch := omega) only [SX0, SX1, SX2, SX3, SX4, SX5, SX6, SX7, SX8, SU0, SY0, Nat.reduceAdd, Nat.reduceMul, Nat.reduceSub, Nat.reduceLeDiff, Nat.reduceEqDiff, Nat.reduceLT, Nat.reduceBEq, ↓reduceIte, Int.reduceLE, Int.reduceLT, Int.reduceToNat, Int.reduceNeg, reduceCtorEq, Int.reduceEq, SF0, SF1, SF2, DZc0, DWb0, DWa0, DLa0, DCg0, DCe0, DCe1, DCe2, DDb0, DBc0, DBc1, DKa0, DHb0, DHb1, DHa0, DDe0, DWc0, DAlh0, DPa0]
    refine acall_one E (by simp [freeL, AV.free, Plan.free]) rfl ?_
    simp (disch := omega) only [SX0, SX1, SX2, SX3, SX4, SX5, SX6, SX7, SX8, SU0, SY0, Nat.reduceAdd, Nat.reduceMul, Nat.reduceSub, Nat.reduceLeDiff, Nat.reduceEqDiff, Nat.reduceLT, Nat.reduceBEq, ↓reduceIte, Int.reduceLE, Int.reduceLT, Int.reduceToNat, Int.reduceNeg, reduceCtorEq, Int.reduceEq, SF0, SF1, SF2, DZc0, DWb0, DWa0, DLa0, DCg0, DCe0, DCe1, DCe2, DDb0, DBc0, DBc1, DKa0, DHb0, DHb1, DHa0, DDe0, DWc0, DAlh0, DPa0, eq_self, ne_eq, not_true, decide_false]
    refine acall_one V (by simp [freeL, AV.free, Work.free]) rfl ?_
    simp (disch := omega) only [SX0, SX1, SX2, SX3, SX4, SX5, SX6, SX7, SX8, SU0, SY0, Nat.reduceAdd, Nat.reduceMul, Nat.reduceSub, Nat.reduceLeDiff, Nat.reduceEqDiff, Nat.reduceLT, Nat.reduceBEq, ↓reduceIte, Int.reduceLE, Int.reduceLT, Int.reduceToNat, Int.reduceNeg, reduceCtorEq, Int.reduceEq, SF0, SF1, SF2, DZc0, DWb0, DWa0, DLa0, DCg0, DCe0, DCe1, DCe2, DDb0, DBc0, DBc1, DKa0, DHb0, DHb1, DHa0, DDe0, DWc0, DAlh0, DPa0]
    refine acall_one E (by simp [freeL, AV.free, Plan.free]) rfl ?_
    simp (disch := omega) only [SX0, SX1, SX2, SX3, SX4, SX5, SX6, SX7, SX8, SU0, SY0, Nat.reduceAdd, Nat.reduceMul, Nat.reduceSub, Nat.reduceLeDiff, Nat.reduceEqDiff, Nat.reduceLT, Nat.reduceBEq, ↓reduceIte, Int.reduceLE, Int.reduceLT, Int.reduceToNat, Int.reduceNeg, reduceCtorEq, Int.reduceEq, SF0, SF1, SF2, DZc0, DWb0, DWa0, DLa0, DCg0, DCe0, DCe1, DCe2, DDb0, DBc0, DBc1, DKa0, DHb0, DHb1, DHa0, DDe0, DWc0, DAlh0, DPa0, eq_self, decide_true]
    exact fin_val ⟨rfl, rfl⟩

end Go.Pc
