/- Plans cut glass: the parts of a plan with their boxes, its cuts. -/
import Derived.Test.YtjeabpbpoomlmaaCa
set_option linter.unusedSimpArgs false
set_option linter.unusedVariables false
namespace Go.Pc
open Go Go.Proofs

/-- The boxes of both kids. -/
def Plan.split (p : Plan) (b : Box) : Box × Box :=
  if p.op = 2 then (⟨b.X, b.Y, p.at_, b.H⟩, ⟨b.X + p.at_, b.Y, b.W - p.at_, b.H⟩) else (⟨b.X, b.Y, b.W, p.at_⟩, ⟨b.X, b.Y + p.at_, b.W, b.H - p.at_⟩)

/-- All parts with their boxes, each before its kids. -/
def Plan.parts : Plan → Box → List (Plan × Box)
  | .mk op at_ pa tu ks, b =>
    (.mk op at_ pa tu ks, b) :: if op = 2 ∨ op = 3 then
      match ks with
      | [x, y] => x.parts ((Plan.mk op at_ pa tu ks).split b).1 ++ y.parts ((Plan.mk op at_ pa tu ks).split b).2
      | _ => []
    else []

theorem Plan.parts_cut {p x y : Plan} (hc : p.cut) (hk : p.ks = [x, y]) (b : Box) : p.parts b = (p, b) :: (x.parts (p.split b).1 ++ y.parts (p.split b).2) := by
  cases p; simp only [Plan.ks] at hk; subst hk
  rw [Plan.parts.eq_def]
  simp only [Plan.cut, Plan.op] at hc
  simp only [if_pos hc]
theorem Plan.parts_leaf {p : Plan} (hc : ¬ p.cut) (b : Box) : p.parts b = [(p, b)] := by
  cases p
  rw [Plan.parts.eq_def]
  simp only [Plan.cut, Plan.op] at hc
  simp only [if_neg hc]

theorem Plan.nodes_two {p x y : Plan} (hk : p.ks = [x, y]) : p.nodes = 1 + x.nodes + y.nodes := by
  rw [Plan.nodes_eq, hk]; simp [Plan.nodesL]; omega
theorem Plan.nodes_leaf {p : Plan} (hw : p.wf = true) (hc : ¬ p.cut) : p.nodes = 1 := by
  have h := ((Plan.wf_iff p).1 hw).1
  unfold Plan.good at h
  rw [if_neg hc] at h
  rw [Plan.nodes_eq, List.length_eq_zero_iff.1 h.1]; rfl

/-- Induction over well formed plans. -/
theorem Plan.wf_ind {M : Plan → Prop} (h1 : ∀ p, p.wf = true → ¬ p.cut → M p) (h2 : ∀ p x y, p.wf = true → p.cut → p.ks = [x, y] → x.wf = true → y.wf = true → M x → M y → M p) : ∀ p, p.wf = true → M p := by
  have : ∀ n p, p.nodes ≤ n → p.wf = true → M p := by
    intro n
    induction n with
    | zero => intro p h; have := p.nodes_pos; omega
    | succ n ih =>
      intro p h hw
      by_cases hc : p.cut
      · obtain ⟨x, y, hk, hx, hy, nx, ny⟩ := Plan.two hw hc
        exact h2 p x y hw hc hk hx hy (ih x (by omega) hx) (ih y (by omega) hy)
      · exact h1 p hw hc
  exact fun p => this _ p (Nat.le_refl _)

theorem Plan.parts_len : ∀ (p : Plan), p.wf = true → ∀ b, (p.parts b).length = p.nodes :=
  Plan.wf_ind (fun p hw hc b => by rw [Plan.parts_leaf hc, Plan.nodes_leaf hw hc]; rfl) (fun p x y hw hc hk hx hy ix iy b => by
    rw [Plan.parts_cut hc hk, Plan.nodes_two hk]; simp [ix, iy]; omega)

/-- Glass in its place. -/
def Box.sane (b : Box) : Prop := 0 ≤ b.X ∧ 0 ≤ b.Y ∧ 1 ≤ b.W ∧ 1 ≤ b.H ∧ b.X + b.W ≤ 200 ∧ b.Y + b.H ≤ 200
theorem Box.sane_ok {b : Box} (h : b.sane) : b.ok := by unfold Box.sane at h; unfold Box.ok; omega

/-- A cut that fits. -/
theorem Plan.fits_cut {k : Work} {p x y : Plan} (hc : p.cut) (hk : p.ks = [x, y]) {b : Box} (hf : p.fits k b.W b.H = true) :
    x.fits k (p.split b).1.W (p.split b).1.H = true ∧ y.fits k (p.split b).2.W (p.split b).2.H = true ∧ 1 ≤ p.at_ ∧ (p.op = 2 → p.at_ ≤ b.W - 1) ∧ (p.op ≠ 2 → p.at_ ≤ b.H - 1) := by
  unfold Plan.split
  rcases hc with h | h
  · rw [Plan.fits_down k p x y _ _ h hk] at hf
    simp only [Bool.and_eq_true, decide_eq_true_eq] at hf
    simp only [if_pos h]
    exact ⟨hf.1.2, hf.2, hf.1.1.1, fun _ => hf.1.1.2, fun g => absurd h g⟩
  · have h2 : ¬ p.op = 2 := by omega
    rw [Plan.fits_across k p x y _ _ h hk] at hf
    simp only [Bool.and_eq_true, decide_eq_true_eq] at hf
    simp only [if_neg h2]
    exact ⟨hf.1.2, hf.2, hf.1.1.1, fun g => absurd g h2, fun _ => hf.1.1.2⟩

theorem Plan.split_sane2 {p : Plan} {b : Box} (hb : b.sane) (h1 : 1 ≤ p.at_) (h2 : p.op = 2 → p.at_ ≤ b.W - 1) (h3 : p.op ≠ 2 → p.at_ ≤ b.H - 1) : (p.split b).1.sane ∧ (p.split b).2.sane := by
  obtain ⟨X, Y, W, H⟩ := b
  unfold Plan.split
  unfold Box.sane at hb
  simp only at hb h2 h3
  by_cases h : p.op = 2
  · have := h2 h
    simp only [if_pos h, Box.sane]
    omega
  · have := h3 h
    simp only [if_neg h, Box.sane]
    omega

theorem Plan.split_sane {k : Work} {p x y : Plan} (hc : p.cut) (hk : p.ks = [x, y]) {b : Box} (hb : b.sane) (hf : p.fits k b.W b.H = true) : (p.split b).1.sane ∧ (p.split b).2.sane ∧
    (p.split b).1.inside b ∧ (p.split b).1 ≠ b ∧ (p.split b).2.inside b ∧ (p.split b).2 ≠ b := by
  obtain ⟨_, _, h1, h2, h3⟩ := Plan.fits_cut hc hk hf
  obtain ⟨X, Y, W, H⟩ := b
  unfold Plan.split
  unfold Box.sane at hb
  simp only at hb h2 h3
  by_cases h : p.op = 2
  · have := h2 h
    simp only [if_pos h, Box.sane, Box.inside, Box.ok, ne_eq, Box.mk.injEq]
    omega
  · have := h3 h
    simp only [if_neg h, Box.sane, Box.inside, Box.ok, ne_eq, Box.mk.injEq]
    omega

/-- All parts of glass that is cut lie in it. -/
theorem Box.inside_trans {a b c : Box} (h : a.inside b) (h' : b.inside c) : a.inside c := by
  exact ⟨h.1, h'.2.1, Int.le_trans h'.2.2.1 h.2.2.1, Int.le_trans h'.2.2.2.1 h.2.2.2.1, Int.le_trans h.2.2.2.2.1 h'.2.2.2.2.1, Int.le_trans h.2.2.2.2.2 h'.2.2.2.2.2⟩
theorem Box.inside_self {a : Box} (h : a.sane) : a.inside a := by
  have := Box.sane_ok h
  exact ⟨this, this, Int.le_refl _, Int.le_refl _, Int.le_refl _, Int.le_refl _⟩

theorem Plan.parts_in (k : Work) : ∀ (p : Plan), p.wf = true → ∀ b, b.sane → p.fits k b.W b.H = true → ∀ q ∈ p.parts b, q.2.sane ∧ q.2.inside b :=
  Plan.wf_ind (fun p hw hc b hb hf q hq => by
    rw [Plan.parts_leaf hc] at hq
    simp at hq; subst hq
    exact ⟨hb, Box.inside_self hb⟩) (fun p x y hw hc hk hx hy ix iy b hb hf q hq => by
    rw [Plan.parts_cut hc hk] at hq
    obtain ⟨f1, f2, _⟩ := Plan.fits_cut hc hk hf
    obtain ⟨s1, s2, i1, _, i2, _⟩ := Plan.split_sane hc hk hb hf
    simp only [List.mem_cons, List.mem_append] at hq
    rcases hq with rfl | hq | hq
    · exact ⟨hb, Box.inside_self hb⟩
    · have := ix _ s1 f1 q hq
      exact ⟨this.1, Box.inside_trans this.2 i1⟩
    · have := iy _ s2 f2 q hq
      exact ⟨this.1, Box.inside_trans this.2 i2⟩)

/-- The cuts by number, each with the number of the cut above it. -/
def Plan.knots : Plan → Int → Int → List (Int × Int)
  | .mk op _ _ _ ks, n, above =>
    if op = 2 ∨ op = 3 then
      match ks with
      | [x, y] => (n, above) :: (x.knots (n + 1) n ++ y.knots (n + 1 + x.nodes) n)
      | _ => []
    else []

theorem Plan.knots_cut {p x y : Plan} (hc : p.cut) (hk : p.ks = [x, y]) (n a : Int) : p.knots n a = (n, a) :: (x.knots (n + 1) n ++ y.knots (n + 1 + x.nodes) n) := by
  cases p; simp only [Plan.ks] at hk; subst hk
  rw [Plan.knots.eq_def]
  simp only [Plan.cut, Plan.op] at hc
  simp only [if_pos hc]
theorem Plan.knots_leaf {p : Plan} (hc : ¬ p.cut) (n a : Int) : p.knots n a = [] := by
  cases p
  rw [Plan.knots.eq_def]
  simp only [Plan.cut, Plan.op] at hc
  simp only [if_neg hc]

/-- Where the numbers of cuts lie. -/
theorem Plan.knots_rng : ∀ (p : Plan), p.wf = true → ∀ n a, ∀ q ∈ p.knots n a, n ≤ q.1 ∧ q.1 < n + p.nodes ∧ (q.2 = a ∨ (n ≤ q.2 ∧ q.2 < q.1)) ∧ (q.1 = n → q.2 = a) :=
  Plan.wf_ind (fun p hw hc n a q hq => by rw [Plan.knots_leaf hc] at hq; cases hq) (fun p x y hw hc hk hx hy ix iy n a q hq => by
    rw [Plan.knots_cut hc hk] at hq
    have := Plan.nodes_two hk
    have := x.nodes_pos
    simp only [List.mem_cons, List.mem_append] at hq
    rcases hq with rfl | hq | hq
    · exact ⟨Int.le_refl _, by simp only; omega, .inl rfl, fun _ => rfl⟩
    · have := ix _ _ q hq
      omega
    · have := iy _ _ q hq
      omega)

/-- The box of a cut is a proper part of the box of the cut above it. -/
theorem Plan.knots_in (k : Work) : ∀ (p : Plan), p.wf = true → ∀ b, b.sane → p.fits k b.W b.H = true → ∀ (n a : Int), ∀ q ∈ p.knots n a, q.1 = n ∨ (n ≤ q.2 ∧ ∃ u v, (p.parts b)[(q.2 - n).toNat]? = some u ∧ (p.parts b)[(q.1 - n).toNat]? = some v ∧ v.2.inside u.2 ∧ v.2 ≠ u.2) :=
  Plan.wf_ind (fun p hw hc b hb hf n a q hq => by rw [Plan.knots_leaf hc] at hq; cases hq) (fun p x y hw hc hk hx hy ix iy b hb hf n a q hq => by
    rw [Plan.knots_cut hc hk] at hq
    obtain ⟨f1, f2, _⟩ := Plan.fits_cut hc hk hf
    obtain ⟨s1, s2, i1, n1, i2, n2⟩ := Plan.split_sane hc hk hb hf
    have lx := Plan.parts_len x hx (p.split b).1
    have ly := Plan.parts_len y hy (p.split b).2
    have getx : ∀ i : Int, 0 ≤ i → i < x.nodes → (p.parts b)[(1 + i).toNat]? = (x.parts (p.split b).1)[i.toNat]? := fun i h0 h1 => by
      rw [Plan.parts_cut hc hk, show (1 + i).toNat = i.toNat + 1 by omega, List.getElem?_cons_succ, List.getElem?_append_left (by omega)]
    have gety : ∀ i : Int, 0 ≤ i → (p.parts b)[(1 + x.nodes + i).toNat]? = (y.parts (p.split b).2)[i.toNat]? := fun i h0 => by
      rw [Plan.parts_cut hc hk, show (1 + (x.nodes : Int) + i).toNat = (x.nodes + i.toNat) + 1 by omega, List.getElem?_cons_succ, List.getElem?_append_right (by omega), lx, Nat.add_sub_cancel_left]
    have get0 : (p.parts b)[0]? = some (p, b) := by rw [Plan.parts_cut hc hk]; rfl
    have gx0 : (x.parts (p.split b).1)[0]? = some (x, (p.split b).1) := by
      by_cases hc' : x.cut
      · obtain ⟨u, v, huv, _⟩ := Plan.two hx hc'
        rw [Plan.parts_cut hc' huv]; rfl
      · rw [Plan.parts_leaf hc']; rfl
    have gy0 : (y.parts (p.split b).2)[0]? = some (y, (p.split b).2) := by
      by_cases hc' : y.cut
      · obtain ⟨u, v, huv, _⟩ := Plan.two hy hc'
        rw [Plan.parts_cut hc' huv]; rfl
      · rw [Plan.parts_leaf hc']; rfl
    have px := x.nodes_pos
    have py := y.nodes_pos
    simp only [List.mem_cons, List.mem_append] at hq
    rcases hq with rfl | hq | hq
    · exact .inl rfl
    · refine .inr ?_
      have hr := Plan.knots_rng x hx _ _ q hq
      rcases ix _ s1 f1 _ _ q hq with h | ⟨h, u, v, hu, hv, hi, hn⟩
      · have h2 := hr.2.2.2 h
        refine ⟨by omega, (p, b), (x, (p.split b).1), ?_, ?_, i1, n1⟩
        · rw [show (q.2 - n).toNat = 0 by omega]; exact get0
        · rw [show q.1 - n = 1 + 0 by omega, getx 0 (by omega) (by omega)]; exact gx0
      · refine ⟨by omega, u, v, ?_, ?_, hi, hn⟩
        · rw [show q.2 - n = 1 + (q.2 - (n + 1)) by omega, getx _ (by omega) (by omega)]; exact hu
        · rw [show q.1 - n = 1 + (q.1 - (n + 1)) by omega, getx _ (by omega) (by omega)]; exact hv
    · refine .inr ?_
      have hr := Plan.knots_rng y hy _ _ q hq
      rcases iy _ s2 f2 _ _ q hq with h | ⟨h, u, v, hu, hv, hi, hn⟩
      · have h2 := hr.2.2.2 h
        refine ⟨by omega, (p, b), (y, (p.split b).2), ?_, ?_, i2, n2⟩
        · rw [show (q.2 - n).toNat = 0 by omega]; exact get0
        · rw [show q.1 - n = 1 + x.nodes + 0 by omega, gety 0 (by omega)]; exact gy0
      · refine ⟨by omega, u, v, ?_, ?_, hi, hn⟩
        · rw [show q.2 - n = 1 + x.nodes + (q.2 - (n + 1 + x.nodes)) by omega, gety _ (by omega)]; exact hu
        · rw [show q.1 - n = 1 + x.nodes + (q.1 - (n + 1 + x.nodes)) by omega, gety _ (by omega)]; exact hv)

end Go.Pc
