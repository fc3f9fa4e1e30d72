/- Sums over panes that are cut from sheets. -/
import Derived.Test.YtkcpcmobmalijaaBma
set_option linter.unusedSimpArgs false
set_option linter.unusedVariables false
namespace Go.Pc
open Go Go.Proofs

structure Sup (f : Int → Int) (M : Int) : Prop where
  nn : ∀ x, 0 ≤ x → 0 ≤ f x
  sup : ∀ x y, 0 ≤ x → 0 ≤ y → x + y ≤ M → f x + f y ≤ f (x + y)
theorem Sup.mono {f : Int → Int} {M : Int} (h : Sup f M) {x y : Int} (h0 : 0 ≤ x) (h1 : x ≤ y) (h2 : y ≤ M) : f x ≤ f y := by
  have a := h.sup x (y - x) h0 (by omega) (by omega)
  have b := h.nn (y - x) (by omega)
  rw [show x + (y - x) = y by omega] at a
  omega
theorem sup_id (M : Int) : Sup (fun x => x) M := ⟨fun _ h => h, fun x y _ _ _ => Int.le_refl _⟩
theorem cut_area {k : Work} (hk : k.ok) {S w h : Nat} (H : Cut k S w h) : sumS (k.Ps.map arP) S ≤ (w : Int) * h := by
  induction H with
  | zero w h hw hh => rw [sumS_zero]; exact Int.mul_nonneg (by omega) (by omega)
  | one i q w h hq hw' =>
    have hq1 := hk.2.2.1 q (List.mem_of_getElem? hq)
    unfold Pane.ok at hq1
    rw [sumS_one _ i (arP q) (by rw [List.getElem?_map, hq]; rfl)]
    unfold wayOk at hw'
    unfold arP
    rcases hw' with hw | hw
    · exact Int.mul_le_mul hw.1 hw.2 (by omega) (by omega)
    · rw [Int.mul_comm]
      exact Int.mul_le_mul hw.2.2.1 hw.2.2.2 (by omega) (by omega)
  | down s a x y h ha h0 h1 A B iA iB =>
    have e : ((x + y : Nat) : Int) * h = (x : Int) * h + y * h := by rw [Int.natCast_add, Int.add_mul]
    rw [sumS_rest _ ha, e]
    omega
  | across s a w x y ha h0 h1 A B iA iB =>
    have e : (w : Int) * ((x + y : Nat) : Int) = w * x + w * y := by rw [Int.natCast_add, Int.mul_add]
    rw [sumS_rest _ ha, e]
    omega

theorem sumI_perm {f : Int → Int} {a b : List Int} (h : a.Perm b) : sumI f a = sumI f b := by
  induction h with
  | nil => rfl
  | cons x _ ih => rw [sumI_cons, sumI_cons, ih]
  | swap x y l => simp only [sumI_cons]; omega
  | trans _ _ ih1 ih2 => rw [ih1, ih2]
theorem sumI_app (f : Int → Int) (a b : List Int) : sumI f (a ++ b) = sumI f a + sumI f b := by simp [sumI]
theorem sumI_all (k : Work) (G : Pane → Int) : sumI (fun i => G (paneA k i)) (upTo k.Ps.length) = sumP G k.Ps := by
  unfold sumI sumP
  congr 1
  apply List.ext_getElem
  · simp [upTo]
  · intro j h1 h2
    simp only [upTo, List.getElem_map, List.getElem_range]
    have hj : j < k.Ps.length := by simpa using h2
    have := paneA_get (k := k) (i := (j : Int)) ⟨by omega, by omega⟩
    rw [Int.toNat_natCast, List.getElem?_eq_getElem hj] at this
    rw [← Option.some.inj this]

theorem row_sum {k : Work} (hk : plainW k) {f g : Int → Int} (hf : Sup f k.W) (hg : Sup g k.H) (hh : Int) (hhH : hh ≤ k.H) : ∀ (r : List Int), (∀ i ∈ r, (0 ≤ i ∧ i < (k.Ps.length : Int)) ∧ hOf k i ≤ hh) → sumI (wOf k) r ≤ k.W →
    0 ≤ sumI (wOf k) r ∧ 0 ≤ sumI (fun i => f (wOf k i)) r ∧ (r ≠ [] → sumI (fun i => f (wOf k i)) r ≤ f (sumI (wOf k) r)) ∧ sumI (fun i => f (wOf k i) * g (hOf k i)) r ≤ sumI (fun i => f (wOf k i)) r * g hh
  | [], _, _ => by simp [sumI]
  | i :: r, hi, hw => by
    obtain ⟨hi1, hi2⟩ := hi i (by simp)
    obtain ⟨p1, p2, _⟩ := hk.pane hi1
    have ew : wOf k i = (paneA k i).W := rfl
    have eh : hOf k i = (paneA k i).H := rfl
    have hr := fun x hx => hi x (List.mem_cons_of_mem _ hx)
    rw [sumI_cons] at hw
    have h0 : 0 ≤ sumI (wOf k) r := by
      have hge : ∀ l : List Int, (∀ x ∈ l, (0 ≤ x ∧ x < (k.Ps.length : Int))) → 0 ≤ sumI (wOf k) l := fun l => by
        induction l with
        | nil => simp [sumI]
        | cons a l ih =>
          intro hl
          have h1 := (hk.pane (hl a (by simp))).1.1
          have h2 := ih fun x hx => hl x (by simp [hx])
          rw [sumI_cons]
          unfold wOf at *
          omega
      exact hge _ fun x hx => (hr x hx).1
    obtain ⟨a1, a2, a3, a4⟩ := row_sum hk hf hg hh hhH r hr (by omega)
    have fn := hf.nn (wOf k i) (by omega)
    have gm := hg.mono (x := hOf k i) (y := hh) (by omega) hi2 hhH
    have m := Int.mul_le_mul_of_nonneg_left gm fn
    simp only [sumI_cons]
    refine ⟨by omega, by omega, fun _ => ?_, ?_⟩
    · rcases Classical.em (r = []) with e | e
      · subst e; simp [sumI]
      · have s := hf.sup (wOf k i) (sumI (wOf k) r) (by omega) h0 (by omega)
        have := a3 e
        omega
    · rw [Int.add_mul]
      omega
theorem sheet_sum {k : Work} (hk : plainW k) {f g : Int → Int} (hf : Sup f k.W) (hg : Sup g k.H) : ∀ (t : List (List Int)), t ≠ [] → (∀ r ∈ t, RowOk k r) → (t.map (highR k)).sum ≤ k.H → sumI (fun i => f (wOf k i) * g (hOf k i)) t.flatten ≤ f k.W * g (t.map (highR k)).sum
  | [], h, _, _ => absurd rfl h
  | r :: t, _, hr, hh => by
    have hr1 := hr r (by simp)
    have ht := fun x hx => hr x (List.mem_cons_of_mem _ hx)
    have hp := highs_pos hk t ht
    have hp1 := highs_pos hk [r] (by simpa using hr1)
    simp only [List.map_cons, List.map_nil, List.sum_cons, List.sum_nil, List.length_cons, List.length_nil] at hp1 hh ⊢
    have hkw := hk.1
    unfold Work.ok at hkw
    obtain ⟨a1, a2, a3, a4⟩ := row_sum hk hf hg (highR k r) (by omega) r (fun i hi => ⟨hr1.idx i hi, hr1.high i hi⟩) hr1.wide
    have b1 := a3 hr1.ne
    have b2 := hf.mono a1 hr1.wide (Int.le_refl _)
    have b3 := Int.mul_le_mul_of_nonneg_right (Int.le_trans b1 b2) (hg.nn (highR k r) (by omega))
    rw [List.flatten_cons, sumI_app]
    rcases Classical.em (t = []) with e | e
    · subst e
      simp [sumI] at *
      omega
    · have ih := sheet_sum hk hf hg t e ht (by omega)
      have s := Int.mul_le_mul_of_nonneg_left (hg.sup (highR k r) (t.map (highR k)).sum (by omega) (by omega) (by omega)) (hf.nn k.W (by omega))
      rw [Int.mul_add] at s
      omega
theorem shelf_sum {k : Work} (hk : plainW k) {f g : Int → Int} (hf : Sup f k.W) (hg : Sup g k.H) {o : List Int} (ho : OrdS k o) : sumP (fun q => f q.W * g q.H) k.Ps ≤ (shelfOf k o).length * (f k.W * g k.H) := by
  obtain ⟨h1, h2⟩ := shRun_all hk ho
  have hkw := hk.1
  unfold Work.ok at hkw
  have e := sumI_all k (fun q => f q.W * g q.H)
  rw [← sumI_perm ho.1, ← h1] at e
  rw [← e]
  have : (shelfOf k o).length = (shRun k o).all.length := by unfold shelfOf; rw [if_pos hk]; unfold shelfPlansP; rw [List.length_map]
  rw [this]
  generalize (shRun k o).all = A at h2
  induction A with
  | nil => simp [sumI]
  | cons t A ih =>
    have ht := h2 t (by simp)
    have ih := ih fun x hx => h2 x (List.mem_cons_of_mem _ hx)
    have s := sheet_sum hk hf hg t ht.ne ht.rows ht.high
    have hp := highs_pos hk t ht.rows
    have gm := hg.mono (x := (t.map (highR k)).sum) (y := k.H) (by omega) ht.high (Int.le_refl _)
    have m := Int.mul_le_mul_of_nonneg_left gm (hf.nn k.W (by omega))
    have ee : ((t :: A).length : Int) * (f k.W * g k.H) = A.length * (f k.W * g k.H) + f k.W * g k.H := by rw [List.length_cons, Int.natCast_add, Int.add_mul]; simp
    rw [ee, List.flatten_cons, List.flatten_append, sumI_app]
    unfold wOf hOf at s
    omega

/-! ### The bounds -/

theorem area_few {k : Work} (hf : fewOk k) : areaB k ≤ (mD (sheetF k) (2 ^ k.Ps.length - 1) : Int) := by
  have hd := (mD_ok (sheetF_one hf) (s := 2 ^ k.Ps.length - 1) (by have := Nat.two_pow_pos k.Ps.length; omega)).1.1
  obtain ⟨e1, e2, b1, b2, b3, b4⟩ := hf.toNat
  have h1 := div_sum (F := sheetF k) (l := k.Ps.map arP) (B := k.W * k.H) (fun a ha => by rw [e1, e2]; exact cut_area hf.1 ha) hd
  have h2 := sumS_all (k.Ps.map arP)
  rw [List.length_map] at h2
  rw [h2] at h1
  have hs : 0 ≤ (k.Ps.map arP).sum := by
    rw [← h2]
    exact sumS_nn _ (fun y hy => by obtain ⟨q, hq, rfl⟩ := List.mem_map.1 hy; exact (arP_bd hf.1 hq).1) _
  have hkw := hf.1
  unfold Work.ok at hkw
  have hA1 := Int.mul_pos (a := k.W) (b := k.H) (by omega) (by omega)
  unfold areaB
  rw [if_pos hf.1]
  exact cdiv_le (by omega) hs h1
theorem area_shelf {k : Work} (hk : plainW k) {o : List Int} (ho : OrdS k o) : areaB k ≤ (shelfOf k o).length := by
  have h1 := shelf_sum hk (sup_id k.W) (sup_id k.H) ho
  have hs := (sumT_bd (f := arP) (B := 40000) (by omega) hk.1 (fun q hq => arP_bd hk.1 hq) k.Ps.length).1
  rw [List.take_length] at hs
  have hkw := hk.1
  unfold Work.ok at hkw
  have hA1 := Int.mul_pos (a := k.W) (b := k.H) (by omega) (by omega)
  unfold areaB
  rw [if_pos hk.1]
  exact cdiv_le (by omega) hs h1
theorem area_zero {k : Work} (hk : k.ok) : 0 ≤ areaB k ∧ (areaB k = 0 ↔ k.Ps.length = 0) := by
  have hkw := hk
  unfold Work.ok at hkw
  have hA1 := Int.mul_pos (a := k.W) (b := k.H) (by omega) (by omega)
  have hs := (sumT_bd (f := arP) (B := 40000) (by omega) hk (fun q hq => arP_bd hk hq) k.Ps.length).1
  rw [List.take_length] at hs
  unfold areaB
  rw [if_pos hk]
  refine ⟨cdiv_nn (by omega) hs, ?_⟩
  constructor
  · intro h
    cases hp : k.Ps with
    | nil => rfl
    | cons q l =>
      exfalso
      have hq := hk.2.2.1 q (by rw [hp]; simp)
      unfold Pane.ok at hq
      have h1 : 1 ≤ arP q := Int.mul_pos (a := q.W) (b := q.H) (by omega) (by omega)
      have h2 := (sumP_bd (f := arP) (B := 40000) (by omega) l fun x hx => arP_bd hk (by rw [hp]; simp [hx])).1
      have h3 : sumP arP k.Ps = arP q + sumP arP l := by rw [hp]; simp [sumP]
      have := cdiv_pos (a := sumP arP k.Ps) (d := k.W * k.H) (by omega) (by omega)
      omega
  · intro h
    have hp : k.Ps = [] := List.length_eq_zero_iff.1 h
    rw [hp]
    show cdiv 0 _ = 0
    unfold cdiv
    rw [Int.tdiv_eq_ediv_of_nonneg (by omega)]
    exact Int.ediv_eq_zero_of_lt (by omega) (by omega)
end Go.Pc
