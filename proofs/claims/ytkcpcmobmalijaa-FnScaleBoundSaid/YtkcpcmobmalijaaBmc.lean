/- Sums over panes that are cut from sheets. -/
import Derived.Test.YtkcpcmobmalijaaBma
set_option linter.unusedSimpArgs false
set_option linter.unusedVariables false
namespace Go.Pc
open Go Go.Proofs

structure Sup (f : Int → Int) (M : Int) : Prop where
  nn : ∀ x, 0 ≤ x → 0 ≤ f x
  sup : ∀ x y, 0 ≤ x → 0 ≤ y → x + y ≤ M → f x + f y ≤ f (x + y)
theorem Sup.mono {f : Int → Int} {M : Int} (h : Sup f M) {x y : Int} (h0 : 0 ≤ x) (h1 : x ≤ y) (h2 : y ≤ M) : f x ≤ f y := by
  have a := h.sup x (y - x) h0 (by omega) (by omega)
  have b := h.nn (y - x) (by omega)
  rw [show x + (y - x) = y by omega] at a
  omega
theorem sup_scl {n bar : Int} (hn : 1 ≤ n) (hb : 1 ≤ bar) : Sup (scl n bar) bar := ⟨fun _ h => scl_nn hn hb h, fun x y h1 h2 h3 => scl_super hn hb h1 h2 h3⟩

theorem cut_sum {k : Work} (hk : plainW k) {f g : Int → Int} (hf : Sup f k.W) (hg : Sup g k.H) {S w h : Nat} (H : Cut k S w h) : (w : Int) ≤ k.W → (h : Int) ≤ k.H → sumS (k.Ps.map fun q => f q.W * g q.H) S ≤ f w * g h := by
  induction H with
  | zero w h hw hh =>
    intro _ _
    rw [sumS_zero]
    exact Int.mul_nonneg (hf.nn _ (by omega)) (hg.nn _ (by omega))
  | one i q w h hq hw' =>
    intro h1 h2
    have hqm := List.mem_of_getElem? hq
    have hq1 := hk.1.2.2.1 q hqm
    have hq2 := hk.2 q hqm
    unfold Pane.ok at hq1
    rw [sumS_one _ i (f q.W * g q.H) (by rw [List.getElem?_map, hq]; rfl)]
    unfold wayOk at hw'
    rw [hq2.1] at hw'
    have hw : q.W ≤ (w : Int) ∧ q.H ≤ (h : Int) := by simpa using hw'
    exact Int.mul_le_mul (hf.mono (by omega) hw.1 h1) (hg.mono (by omega) hw.2 h2) (hg.nn _ (by omega)) (hf.nn _ (by omega))
  | down s a x y h ha h0 h1 A B iA iB =>
    intro g1 g2
    have e : ((x + y : Nat) : Int) = (x : Int) + y := by omega
    rw [sumS_rest _ ha, e]
    have i1 := iA (by omega) g2
    have i2 := iB (by omega) g2
    have i3 := Int.mul_le_mul_of_nonneg_right (hf.sup x y (by omega) (by omega) (by omega)) (hg.nn h (by omega))
    rw [Int.add_mul] at i3
    omega
  | across s a w x y ha h0 h1 A B iA iB =>
    intro g1 g2
    have e : ((x + y : Nat) : Int) = (x : Int) + y := by omega
    rw [sumS_rest _ ha, e]
    have i1 := iA g1 (by omega)
    have i2 := iB g1 (by omega)
    have i3 := Int.mul_le_mul_of_nonneg_left (hg.sup x y (by omega) (by omega) (by omega)) (hf.nn w (by omega))
    rw [Int.mul_add] at i3
    omega
theorem sumI_perm {f : Int → Int} {a b : List Int} (h : a.Perm b) : sumI f a = sumI f b := by
  induction h with
  | nil => rfl
  | cons x _ ih => rw [sumI_cons, sumI_cons, ih]
  | swap x y l => simp only [sumI_cons]; omega
  | trans _ _ ih1 ih2 => rw [ih1, ih2]
theorem sumI_app (f : Int → Int) (a b : List Int) : sumI f (a ++ b) = sumI f a + sumI f b := by simp [sumI]
theorem sumI_all (k : Work) (G : Pane → Int) : sumI (fun i => G (paneA k i)) (upTo k.Ps.length) = sumP G k.Ps := by
  unfold sumI sumP
  congr 1
  apply List.ext_getElem
  · simp [upTo]
  · intro j h1 h2
    simp only [upTo, List.getElem_map, List.getElem_range]
    have hj : j < k.Ps.length := by simpa using h2
    have := paneA_get (k := k) (i := (j : Int)) ⟨by omega, by omega⟩
    rw [Int.toNat_natCast, List.getElem?_eq_getElem hj] at this
    rw [← Option.some.inj this]

theorem row_sum {k : Work} (hk : plainW k) {f g : Int → Int} (hf : Sup f k.W) (hg : Sup g k.H) (hh : Int) (hhH : hh ≤ k.H) : ∀ (r : List Int), (∀ i ∈ r, (0 ≤ i ∧ i < (k.Ps.length : Int)) ∧ hOf k i ≤ hh) → sumI (wOf k) r ≤ k.W →
    0 ≤ sumI (wOf k) r ∧ 0 ≤ sumI (fun i => f (wOf k i)) r ∧ (r ≠ [] → sumI (fun i => f (wOf k i)) r ≤ f (sumI (wOf k) r)) ∧ sumI (fun i => f (wOf k i) * g (hOf k i)) r ≤ sumI (fun i => f (wOf k i)) r * g hh
  | [], _, _ => by simp [sumI]
  | i :: r, hi, hw => by
    obtain ⟨hi1, hi2⟩ := hi i (by simp)
    obtain ⟨p1, p2, _⟩ := hk.pane hi1
    have ew : wOf k i = (paneA k i).W := rfl
    have eh : hOf k i = (paneA k i).H := rfl
    have hr := fun x hx => hi x (List.mem_cons_of_mem _ hx)
    rw [sumI_cons] at hw
    have h0 : 0 ≤ sumI (wOf k) r := by
      have hge : ∀ l : List Int, (∀ x ∈ l, (0 ≤ x ∧ x < (k.Ps.length : Int))) → 0 ≤ sumI (wOf k) l := fun l => by
        induction l with
        | nil => simp [sumI]
        | cons a l ih =>
          intro hl
          have h1 := (hk.pane (hl a (by simp))).1.1
          have h2 := ih fun x hx => hl x (by simp [hx])
          rw [sumI_cons]
          unfold wOf at *
          omega
      exact hge _ fun x hx => (hr x hx).1
    obtain ⟨a1, a2, a3, a4⟩ := row_sum hk hf hg hh hhH r hr (by omega)
    have fn := hf.nn (wOf k i) (by omega)
    have gm := hg.mono (x := hOf k i) (y := hh) (by omega) hi2 hhH
    have m := Int.mul_le_mul_of_nonneg_left gm fn
    simp only [sumI_cons]
    refine ⟨by omega, by omega, fun _ => ?_, ?_⟩
    · rcases Classical.em (r = []) with e | e
      · subst e; simp [sumI]
      · have s := hf.sup (wOf k i) (sumI (wOf k) r) (by omega) h0 (by omega)
        have := a3 e
        omega
    · rw [Int.add_mul]
      omega
theorem sheet_sum {k : Work} (hk : plainW k) {f g : Int → Int} (hf : Sup f k.W) (hg : Sup g k.H) : ∀ (t : List (List Int)), t ≠ [] → (∀ r ∈ t, RowOk k r) → (t.map (highR k)).sum ≤ k.H → sumI (fun i => f (wOf k i) * g (hOf k i)) t.flatten ≤ f k.W * g (t.map (highR k)).sum
  | [], h, _, _ => absurd rfl h
  | r :: t, _, hr, hh => by
    have hr1 := hr r (by simp)
    have ht := fun x hx => hr x (List.mem_cons_of_mem _ hx)
    have hp := highs_pos hk t ht
    have hp1 := highs_pos hk [r] (by simpa using hr1)
    simp only [List.map_cons, List.map_nil, List.sum_cons, List.sum_nil, List.length_cons, List.length_nil] at hp1 hh ⊢
    have hkw := hk.1
    unfold Work.ok at hkw
    obtain ⟨a1, a2, a3, a4⟩ := row_sum hk hf hg (highR k r) (by omega) r (fun i hi => ⟨hr1.idx i hi, hr1.high i hi⟩) hr1.wide
    have b1 := a3 hr1.ne
    have b2 := hf.mono a1 hr1.wide (Int.le_refl _)
    have b3 := Int.mul_le_mul_of_nonneg_right (Int.le_trans b1 b2) (hg.nn (highR k r) (by omega))
    rw [List.flatten_cons, sumI_app]
    rcases Classical.em (t = []) with e | e
    · subst e
      simp [sumI] at *
      omega
    · have ih := sheet_sum hk hf hg t e ht (by omega)
      have s := Int.mul_le_mul_of_nonneg_left (hg.sup (highR k r) (t.map (highR k)).sum (by omega) (by omega) (by omega)) (hf.nn k.W (by omega))
      rw [Int.mul_add] at s
      omega
theorem shelf_sum {k : Work} (hk : plainW k) {f g : Int → Int} (hf : Sup f k.W) (hg : Sup g k.H) {o : List Int} (ho : OrdS k o) : sumP (fun q => f q.W * g q.H) k.Ps ≤ (shelfOf k o).length * (f k.W * g k.H) := by
  obtain ⟨h1, h2⟩ := shRun_all hk ho
  have hkw := hk.1
  unfold Work.ok at hkw
  have e := sumI_all k (fun q => f q.W * g q.H)
  rw [← sumI_perm ho.1, ← h1] at e
  rw [← e]
  have : (shelfOf k o).length = (shRun k o).all.length := by unfold shelfOf; rw [if_pos hk]; unfold shelfPlansP; rw [List.length_map]
  rw [this]
  generalize (shRun k o).all = A at h2
  induction A with
  | nil => simp [sumI]
  | cons t A ih =>
    have ht := h2 t (by simp)
    have ih := ih fun x hx => h2 x (List.mem_cons_of_mem _ hx)
    have s := sheet_sum hk hf hg t ht.ne ht.rows ht.high
    have hp := highs_pos hk t ht.rows
    have gm := hg.mono (x := (t.map (highR k)).sum) (y := k.H) (by omega) ht.high (Int.le_refl _)
    have m := Int.mul_le_mul_of_nonneg_left gm (hf.nn k.W (by omega))
    have ee : ((t :: A).length : Int) * (f k.W * g k.H) = A.length * (f k.W * g k.H) + f k.W * g k.H := by rw [List.length_cons, Int.natCast_add, Int.add_mul]; simp
    rw [ee, List.flatten_cons, List.flatten_append, sumI_app]
    unfold wOf hOf at s
    omega

theorem scale_few {k : Work} {n m : Int} (hs : scaleOk k n m) (hf : fewOk k) : scaleB k n m ≤ (mD (sheetF k) (2 ^ k.Ps.length - 1) : Int) := by
  obtain ⟨hk, hn, hm⟩ := id hs
  have hkw := hk.1
  unfold Work.ok at hkw
  have hd := (mD_ok (sheetF_one hf) (s := 2 ^ k.Ps.length - 1) (by have := Nat.two_pow_pos k.Ps.length; omega)).1.1
  obtain ⟨e1, e2, b1, b2, b3, b4⟩ := hf.toNat
  have h1 := div_sum (F := sheetF k) (l := k.Ps.map fun q => scl n k.W q.W * scl m k.H q.H) (B := scl n k.W k.W * scl m k.H k.H) (fun a ha => by
    have := cut_sum hk (sup_scl (n := n) (bar := k.W) (by omega) (by omega)) (sup_scl (n := m) (bar := k.H) (by omega) (by omega)) ha (by omega) (by omega)
    rwa [← e1, ← e2] at this) hd
  have h2 := sumS_all (k.Ps.map fun q => scl n k.W q.W * scl m k.H q.H)
  rw [List.length_map] at h2
  rw [h2, scl_bar (by omega) (by omega), scl_bar (by omega) (by omega), ← Int.mul_assoc (n * k.W)] at h1
  obtain ⟨_, _, d3⟩ := scaleD hs
  have hnn := (sumT_bd (f := sclP k n m) (B := 1960000) (by omega) hk.1 (fun q hq => sclP_bd hs hq) k.Ps.length).1
  rw [List.take_length] at hnn
  unfold scaleB
  rw [if_pos hs]
  exact cdiv_le (by omega) hnn h1
theorem scale_shelf {k : Work} {n m : Int} (hs : scaleOk k n m) {o : List Int} (ho : OrdS k o) : scaleB k n m ≤ (shelfOf k o).length := by
  obtain ⟨hk, hn, hm⟩ := id hs
  have hkw := hk.1
  unfold Work.ok at hkw
  have h1 := shelf_sum hk (sup_scl (n := n) (bar := k.W) (by omega) (by omega)) (sup_scl (n := m) (bar := k.H) (by omega) (by omega)) ho
  rw [scl_bar (by omega) (by omega), scl_bar (by omega) (by omega), ← Int.mul_assoc (n * k.W)] at h1
  obtain ⟨_, _, d3⟩ := scaleD hs
  have hnn := (sumT_bd (f := sclP k n m) (B := 1960000) (by omega) hk.1 (fun q hq => sclP_bd hs hq) k.Ps.length).1
  rw [List.take_length] at hnn
  unfold scaleB
  rw [if_pos hs]
  exact cdiv_le (by omega) hnn h1

end Go.Pc
