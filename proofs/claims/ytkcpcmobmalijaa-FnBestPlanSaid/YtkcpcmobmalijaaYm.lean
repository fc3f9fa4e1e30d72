/- The best plan is a plan, and its value is the best one. -/
import Derived.Test.YtkcpcmobmalijaaYk
import Derived.Test.YtkcpcmobmalijaaMv
set_option linter.unusedSimpArgs false
set_option linter.unusedVariables false
namespace Go.Pc
open Go Go.Proofs

theorem LfS.one_ok {k : Work} {vs : List Int} {w h : Int} {i : Nat} {v : Int} {t : Bool} {s : LfS} (hv : (vs[i]?).getD 0 = v) (hs : 0 < s.m → s.a = 1 ∧ fills k s.pa s.tu w h = true ∧ (vs[s.pa.toNat]?).getD 0 = s.m) : 0 < (s.one k w h i v t).m → (s.one k w h i v t).a = 1 ∧ fills k (s.one k w h i v t).pa (s.one k w h i v t).tu w h = true ∧ (vs[(s.one k w h i v t).pa.toNat]?).getD 0 = (s.one k w h i v t).m := by
  unfold LfS.one
  split
  · rename_i hh
    exact fun _ => ⟨rfl, hh.2, hv⟩
  · exact hs
theorem leafS_ok {k : Work} {vs : List Int} {w h : Int} : ∀ i : Nat, 0 < (leafS k vs w h i).m → (leafS k vs w h i).a = 1 ∧ fills k (leafS k vs w h i).pa (leafS k vs w h i).tu w h = true ∧ (vs[(leafS k vs w h i).pa.toNat]?).getD 0 = (leafS k vs w h i).m
  | 0 => fun h => by simp [leafS] at h
  | i + 1 => by
    have e : vs.getD i 0 = (vs[i]?).getD 0 := by simp [List.getD_eq_getElem?_getD]
    rw [leafS, e]
    exact LfS.one_ok rfl (LfS.one_ok rfl (leafS_ok i))

theorem maxTo_at {g : Nat → Int} {m : Int} : ∀ n : Nat, maxTo g m n = m ∨ ∃ c, 1 ≤ c ∧ c ≤ n ∧ g c = maxTo g m n
  | 0 => .inl rfl
  | n + 1 => by
    rw [maxTo]
    rcases Int.le_total (maxTo g m n) (g (n + 1)) with hle | hle
    · exact .inr ⟨n + 1, by omega, by omega, by omega⟩
    · have e : max (maxTo g m n) (g (n + 1)) = maxTo g m n := by omega
      rw [e]
      rcases maxTo_at (g := g) (m := m) n with h | ⟨c, h1, h2, h3⟩
      · exact .inl h
      · exact .inr ⟨c, h1, by omega, h3⟩

theorem firstC_get {g : Nat → Int} {t : Int} {n c : Nat} (h : firstC g t n = some c) : 1 ≤ c ∧ c ≤ n ∧ g c = t := by
  unfold firstC at h
  rw [Option.map_eq_some_iff] at h
  obtain ⟨j, hj, rfl⟩ := h
  rw [List.find?_range_eq_some] at hj
  obtain ⟨h1, h2, _⟩ := hj
  have := List.mem_range.1 h2
  exact ⟨by omega, by omega, by simpa using h1⟩
theorem firstC_no {g : Nat → Int} {t : Int} {n : Nat} (h : firstC g t n = none) : ∀ c, 1 ≤ c → c ≤ n → g c ≠ t := fun c h1 h2 e => by
  unfold firstC at h
  rw [Option.map_eq_none_iff, List.find?_eq_none] at h
  have := h (c - 1) (List.mem_range.2 (by omega))
  simp only [show c - 1 + 1 = c by omega, e, decide_true, not_true] at this

/-- The value of what lies on glass. -/
def sumV (vs : List Int) (p : Plan) (b : Box) : Int := ((p.places b).map fun q => (vs[q.pa.toNat]?).getD 0).sum
theorem sumV_cut {vs : List Int} {p x y : Plan} (hc : p.cut) (hk : p.ks = [x, y]) (b : Box) : sumV vs p b = sumV vs x (p.split b).1 + sumV vs y (p.split b).2 := by
  have hn : placeOf (p, b) = none := by unfold placeOf; rw [if_neg]; simp only; unfold Plan.cut at hc; omega
  unfold sumV Plan.places
  rw [Plan.parts_cut hc hk, List.filterMap_cons, hn, List.filterMap_append, List.map_append, List.sum_append]
theorem sumV_waste (vs : List Int) (b : Box) : sumV vs (.mk 0 0 0 false []) b = 0 := by
  unfold sumV Plan.places
  rw [Plan.parts_leaf (by simp [Plan.cut, Plan.op])]
  simp [placeOf, Plan.op]

theorem bp_sum {k : Work} {vs : List Int} (hvb : ∀ v ∈ vs, 1 ≤ v ∧ v ≤ 1000) : ∀ (f w h : Nat), w + h < f → 1 ≤ w → 1 ≤ h → ∀ b : Box, b.W = w → b.H = h → (bpF k vs f w h).fits k b.W b.H = true ∧ sumV vs (bpF k vs f w h) b = vt k vs w h := by
  intro f
  induction f with
  | zero => intro w h hf; omega
  | succ f ih =>
  intro w h hf h1 h2 b hb1 hb2
  have zero : ∀ b' : Box, (Plan.mk 0 0 0 false []).fits k b'.W b'.H = true := fun b' => Plan.fits_else k _ _ _ (by simp [Plan.op]) (by simp [Plan.op]) (by simp [Plan.op])
  rw [bpF]
  by_cases e1 : vt k vs w h = 0
  · rw [if_pos e1, e1]
    exact ⟨zero b, sumV_waste vs b⟩
  have s0 := (vt_bd (k := k) hvb (w + h) w h (Nat.le_refl _)).1
  rw [if_neg e1]
  by_cases e2 : (leafS k vs w h vs.length).m = vt k vs w h
  · rw [if_pos e2]
    obtain ⟨l1, l2, l3⟩ := leafS_ok (k := k) (vs := vs) (w := w) (h := h) vs.length (by omega)
    rw [Plan.fits_pane k (leafS k vs w h vs.length).plan _ _ l1, hb1, hb2]
    refine ⟨l2, ?_⟩
    unfold sumV Plan.places
    rw [Plan.parts_leaf (by simp [Plan.cut, Plan.op, LfS.plan, l1])]
    simp only [List.filterMap_cons, List.filterMap_nil, placeOf, LfS.plan, Plan.op, l1, if_true, List.map_cons, List.map_nil, List.sum_cons, List.sum_nil, Plan.pa, Plan.tu]
    omega
  rw [if_neg e2]
  cases hc1 : firstC (fun c => vt k vs c h + vt k vs (w - c) h) (vt k vs w h) (w / 2) with
  | some c =>
    obtain ⟨c1, c2, c3⟩ := firstC_get hc1
    simp only
    obtain ⟨a1, a2⟩ := ih c h (by omega) (by omega) h2 ⟨b.X, b.Y, c, b.H⟩ rfl hb2
    obtain ⟨a3, a4⟩ := ih (w - c) h (by omega) (by omega) h2 ⟨b.X + c, b.Y, b.W - c, b.H⟩ (by simp only []; omega) hb2
    generalize bpF k vs f c h = x at *
    generalize bpF k vs f (w - c) h = y at *
    have hs : (Plan.mk 2 c 0 false [x, y]).split b = (⟨b.X, b.Y, c, b.H⟩, ⟨b.X + c, b.Y, b.W - c, b.H⟩) := by unfold Plan.split; simp [Plan.op, Plan.at_]
    refine ⟨?_, ?_⟩
    · rw [Plan.fits_down k _ x y _ _ rfl rfl, Plan.at_]
      simp only [Bool.and_eq_true, decide_eq_true_eq]
      exact ⟨⟨⟨by omega, by omega⟩, a1⟩, a3⟩
    · rw [sumV_cut (x := x) (y := y) (.inl rfl) rfl, hs, a2, a4, ← c3]
  | none =>
  simp only
  cases hc2 : firstC (fun c => vt k vs w c + vt k vs w (h - c)) (vt k vs w h) (h / 2) with
  | some c =>
    obtain ⟨c1, c2, c3⟩ := firstC_get hc2
    simp only
    obtain ⟨a1, a2⟩ := ih w c (by omega) h1 (by omega) ⟨b.X, b.Y, b.W, c⟩ hb1 rfl
    obtain ⟨a3, a4⟩ := ih w (h - c) (by omega) h1 (by omega) ⟨b.X, b.Y + c, b.W, b.H - c⟩ hb1 (by simp only []; omega)
    generalize bpF k vs f w c = x at *
    generalize bpF k vs f w (h - c) = y at *
    have hs : (Plan.mk 3 c 0 false [x, y]).split b = (⟨b.X, b.Y, b.W, c⟩, ⟨b.X, b.Y + c, b.W, b.H - c⟩) := by unfold Plan.split; simp [Plan.op, Plan.at_]
    refine ⟨?_, ?_⟩
    · rw [Plan.fits_across k _ x y _ _ rfl rfl, Plan.at_]
      simp only [Bool.and_eq_true, decide_eq_true_eq]
      exact ⟨⟨⟨by omega, by omega⟩, a1⟩, a3⟩
    · rw [sumV_cut (x := x) (y := y) (.inr rfl) rfl, hs, a2, a4, ← c3]
  | none =>
    exfalso
    have n1 := firstC_no hc1
    have n2 := firstC_no hc2
    have he := vt_eq (k := k) (vs := vs) (w := w) (h := h) h1 h2
    rcases maxTo_at (g := fun c => vt k vs w c + vt k vs w (h - c)) (m := maxTo (fun c => vt k vs c h + vt k vs (w - c) h) (leafS k vs w h vs.length).m (w / 2)) (h / 2) with q | ⟨c, q1, q2, q3⟩
    · rw [q] at he
      rcases maxTo_at (g := fun c => vt k vs c h + vt k vs (w - c) h) (m := (leafS k vs w h vs.length).m) (w / 2) with q | ⟨c, q1, q2, q3⟩
      · rw [q] at he; exact e2 he.symm
      · rw [← he] at q3; exact n1 c q1 q2 q3
    · rw [← he] at q3; exact n2 c q1 q2 q3

/-- The best plan is valid, and its value is the greatest one. -/
theorem bestP_valid {k : Work} {vs : List Int} (h : (bestP k vs).2 = true) : (bestP k vs).1.valid k ∧ toldV k vs ∧ (bestP k vs).1.value k vs = vt k vs k.W.toNat k.H.toNat := by
  unfold bestP at *
  by_cases hc : toldV k vs ∧ 0 ≤ (bpF k vs (k.W.toNat + k.H.toNat + 1) k.W.toNat k.H.toNat).size
  · rw [if_pos hc]
    have hok := hc.1.1
    have hok' := hok
    unfold Work.ok at hok'
    obtain ⟨s1, s2⟩ := bp_sum (k := k) (vs := vs) hc.1.2.2.2 (k.W.toNat + k.H.toNat + 1) k.W.toNat k.H.toNat (by omega) (by omega) (by omega) k.sheet (by show k.W = _; omega) (by show k.H = _; omega)
    have hv : (bpF k vs (k.W.toNat + k.H.toNat + 1) k.W.toNat k.H.toNat).valid k := ⟨hok, (Plan.size_pos hc.2).1, s1⟩
    refine ⟨hv, hc.1, ?_⟩
    unfold Plan.value
    rw [if_pos ⟨hv, hc.1.2.2.1.2, hc.1.2.2.2⟩]
    exact s2
  · rw [if_neg hc] at h; cases h

theorem bestP_wf (k : Work) (vs : List Int) : (bestP k vs).1.wf = true := by
  unfold bestP
  split
  · rename_i h; exact (Plan.size_pos h.2).1.1
  · rw [Plan.wf_iff]
    exact ⟨by simp [Plan.good, Plan.cut, Plan.op, Plan.ks, Plan.at_, Plan.pa, Plan.tu], fun q hq => by simp [Plan.ks] at hq⟩

theorem e_bestValueIX : Enters Try.prog 19 := enters_of Try.func19 (by kernel_rfl) (by kernel_rfl)
set_option maxRecDepth 16000 in
set_option maxHeartbeats 4000000 in
theorem bestValueIX_c (k : Work) (vs : List Int) (hk : k.Ps.length < 2 ^ 40) (hl : vs.length < 2 ^ 40) (h1 : toldV k vs) : ACalls Try.prog 19 [.agg k.cs, .sl (ints vs)] [] [] (fun r L => r = .val (.int .i64 (vt k vs k.W.toNat k.H.toNat)) ∧ L = []) := by
  have hok := h1.1
  unfold Work.ok at hok
  have hwh := h1.2.1
  obtain ⟨W, hW⟩ : ∃ n : Nat, k.W = n := ⟨k.W.toNat, by omega⟩
  obtain ⟨H, hH⟩ : ∃ n : Nat, k.H = n := ⟨k.H.toNat, by omega⟩
  have V := valuesOfX_c k vs W H h1.fine hW hH (by omega) (by omega)
  have t0 := tabL_get (f := tabD k vs H (W + 1) 1) (w := W) (h := H) (by omega) (by omega)
  rw [tabD_in (by omega) (by omega)] at t0
  have e1 : k.W.toNat = W := by omega
  have e2 : k.H.toNat = H := by omega
  rw [e1, e2]
  have T := bestToldX_c k vs hk hl
  rw [decide_eq_true h1] at T
  refine acalls_tm T_tt Try.func19 rfl e_bestValueIX 18 rfl (W8 _ _ .any .any .any .any .any .any (W8 .any .any .any .any .any .any .any .any [.any, .any, .any, .any])) rfl (rv := [.tmp 4]) rfl (sx_sound (bl := []) T_tt _ _ _ ?_)
  simp (disch := omega) only [SX0, SX1, SX2, SX3, SX4, SX5, SX6, SX7, SX8, SU0, SY0, SY1, Nat.reduceAdd, Nat.reduceMul, Nat.reduceSub, Nat.reduceLeDiff, Nat.reduceEqDiff, Nat.reduceLT, Nat.reduceBEq, ↓reduceIte, Int.reduceLE, Int.reduceLT, Int.reduceToNat, Int.reduceNeg, reduceCtorEq, Int.reduceEq, SF0, SF1, SF2, DHb0, DHb1, DHa0, DCg0, DCe0, DCe1, DCe2, DDb0, DBc0, DBc1, DDe0, DKa0, DYb0, DAlh0]
  refine acall_one T (by simp [freeL, AV.free, Work.free]) rfl ?_
  simp (disch := omega) only [SX0, SX1, SX2, SX3, SX4, SX5, SX6, SX7, SX8, SU0, SY0, SY1, Nat.reduceAdd, Nat.reduceMul, Nat.reduceSub, Nat.reduceLeDiff, Nat.reduceEqDiff, Nat.reduceLT, Nat.reduceBEq, ↓reduceIte, Int.reduceLE, Int.reduceLT, Int.reduceToNat, Int.reduceNeg, reduceCtorEq, Int.reduceEq, SF0, SF1, SF2, DHb0, DHb1, DHa0, DCg0, DCe0, DCe1, DCe2, DDb0, DBc0, DBc1, DDe0, DKa0, DYb0, DAlh0]
  refine acall_one V (by simp [freeL, AV.free, Work.free]) (by simp [AV.free, tabL_free]) ?_
  simp (disch := omega) only [SX0, SX1, SX2, SX3, SX4, SX5, SX6, SX7, SX8, SU0, SY0, SY1, Nat.reduceAdd, Nat.reduceMul, Nat.reduceSub, Nat.reduceLeDiff, Nat.reduceEqDiff, Nat.reduceLT, Nat.reduceBEq, ↓reduceIte, Int.reduceLE, Int.reduceLT, Int.reduceToNat, Int.reduceNeg, reduceCtorEq, Int.reduceEq, SF0, SF1, SF2, DHb0, DHb1, DHa0, DCg0, DCe0, DCe1, DCe2, DDb0, DBc0, DBc1, DDe0, DKa0, DYb0, DAlh0, hW, hH]
  have hdz : List.drop 289 (List.map AV.val (List.replicate 289 (Value.int .i64 0))) = [] := by simp
  refine req (by simp) ?_
  simp (disch := omega) only [SX0, SX1, SX2, SX3, SX4, SX5, SX6, SX7, SX8, SU0, SY0, SY1, Nat.reduceAdd, Nat.reduceMul, Nat.reduceSub, Nat.reduceLeDiff, Nat.reduceEqDiff, Nat.reduceLT, Nat.reduceBEq, ↓reduceIte, Int.reduceLE, Int.reduceLT, Int.reduceToNat, Int.reduceNeg, reduceCtorEq, Int.reduceEq, SF0, SF1, SF2, DHb0, DHb1, DHa0, DCg0, DCe0, DCe1, DCe2, DDb0, DBc0, DBc1, DDe0, DKa0, DYb0, DAlh0, hW, hH, hdz, List.append_nil]
  refine awp_drawA T_tt mixed (by decide +kernel) (by kernel_rfl) (by kernel_rfl) ?_
  repeat' first | simp (disch := omega) only [SX0, SX1, SX2, SX3, SX4, SX5, SX6, SX7, SX8, SU0, SY0, SY1, Nat.reduceAdd, Nat.reduceMul, Nat.reduceSub, Nat.reduceLeDiff, Nat.reduceEqDiff, Nat.reduceLT, Nat.reduceBEq, ↓reduceIte, Int.reduceLE, Int.reduceLT, Int.reduceToNat, Int.reduceNeg, reduceCtorEq, Int.reduceEq, SF0, SF1, SF2, DHb0, DHb1, DHa0, DCg0, DCe0, DCe1, DCe2, DDb0, DBc0, DBc1, DDe0, DKa0, DYb0, DAlh0, hW, hH, t0] | refine req (by omega) ?_ | fail
  exact fin_val ⟨rfl, rfl⟩

end Go.Pc
