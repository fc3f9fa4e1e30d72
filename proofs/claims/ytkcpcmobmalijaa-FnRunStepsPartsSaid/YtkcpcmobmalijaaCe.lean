/- Boxes: valid ones, what two have in common, inside; the program's panes and works. -/
import Derived.Test.YtkcpcmobmalijaaDb
set_option linter.unusedSimpArgs false
set_option linter.unusedVariables false
namespace Go.Pc
open Go Go.Proofs

/-- A box. -/
structure Box where
  X : Int
  Y : Int
  W : Int
  H : Int
  deriving DecidableEq
theorem Box.ext_iff {a b : Box} : a = b ↔ a.X = b.X ∧ a.Y = b.Y ∧ a.W = b.W ∧ a.H = b.H := by cases a; cases b; simp

def Box.cs (b : Box) : List AV := [.val (.int .i64 b.X), .val (.int .i64 b.Y), .val (.int .i64 b.W), .val (.int .i64 b.H)]
theorem Box.len (b : Box) : b.cs.length = 4 := rfl
theorem Box.take (b : Box) : b.cs.take 4 = b.cs := rfl
theorem Box.g0 (b : Box) : b.cs[0]? = some (.val (.int .i64 b.X)) := rfl
theorem Box.g1 (b : Box) : b.cs[1]? = some (.val (.int .i64 b.Y)) := rfl
theorem Box.g2 (b : Box) : b.cs[2]? = some (.val (.int .i64 b.W)) := rfl
theorem Box.g3 (b : Box) : b.cs[3]? = some (.val (.int .i64 b.H)) := rfl
theorem Box.one (b : Box) : b.cs.all AV.one = true := rfl
theorem Box.pure (b : Box) : b.cs.all AV.pure = true := rfl
theorem Box.free (b : Box) : freeL b.cs = true := rfl

theorem Box.filtd (f : Nat → Bool) (p : Box) : filtL f p.cs = p.cs := (free_filt_aux f).2 _ p.free
theorem Box.rend (f : Nat → Nat) (p : Box) : renL f p.cs = p.cs := freeL_rend f p.free
theorem DCe0 : type_of% @Box.rend ∧ type_of% @Box.filtd ∧ type_of% @Box.len ∧ type_of% @Box.take ∧ type_of% @Box.g0 ∧ type_of% @Box.g1 ∧ type_of% @Box.g2 ∧ type_of% @Box.g3 ∧ type_of% @Box.one ∧ type_of% @Box.pure := ⟨@Box.rend, @Box.filtd, @Box.len, @Box.take, @Box.g0, @Box.g1, @Box.g2, @Box.g3, @Box.one, @Box.pure⟩
theorem Box.eq (a b : Box) : eqA [SK.int, SK.int, SK.int, SK.int] a.cs b.cs = some (decide (a = b)) := by
  obtain ⟨x, y, w, h⟩ := a
  obtain ⟨x', y', w', h'⟩ := b
  simp [Box.cs, eqA, Box.mk.injEq, Bool.decide_and]
theorem DCe1 : type_of% @Box.eq := @Box.eq
def Box.ok (b : Box) : Prop := (1 ≤ b.W ∧ b.W ≤ 200) ∧ (1 ≤ b.H ∧ b.H ≤ 200) ∧ (0 ≤ b.X ∧ b.X + b.W ≤ 200) ∧ (0 ≤ b.Y ∧ b.Y + b.H ≤ 200)
instance (b : Box) : Decidable b.ok := inferInstanceAs (Decidable (_ ∧ _))

theorem e_validBoxI : Enters Try.prog 153 := enters_of Try.func153 (by kernel_rfl) (by kernel_rfl)
theorem validBoxI_c (b : Box) : ACalls Try.prog 153 [.agg b.cs] [] [] (fun r L => r = .val (.bool (decide b.ok)) ∧ L = []) := by
  refine acalls_tm T_tt Try.func153 rfl e_validBoxI 44 rfl (W8 _ .any .any .any .any .any .any .any (W8 .any .any .any .any .any .any .any .any (W8 .any .any .any .any .any .any .any .any (W8 .any .any .any .any .any .any .any .any (W8 .any .any .any .any .any .any .any .any [.any, .any, .any, .any, .any]))))) rfl (rv := [.tmp 2]) rfl (sx_sound (bl := []) T_tt _ _ _ ?_)
  repeat' first | with_reducible refine fin_val ⟨?_, rfl⟩ | with_reducible refine br_dec (fun hb => ?_) (fun hb => ?_) | with_reducible refine br_ndec (fun hb => ?_) (fun hb => ?_) | with_reducible refine br_bool (fun hb => ?_) (fun hb => ?_) | with_reducible refine pk_dec (fun hb => ?_) (fun hb => ?_) | with_reducible refine pk_ndec (fun hb => ?_) (fun hb => ?_) | with_reducible refine awp_drawA T_tt mixed (by decide +kernel) (by kernel_rfl) (by kernel_rfl) ?_ | simp (disch := omega) only [SX0, SX1, SX2, SX3, SX4, SX5, SX6, SX7, SX8, SU0, SY0, SY1, Nat.reduceAdd, Nat.reduceMul, Nat.reduceSub, Nat.reduceLeDiff, Nat.reduceEqDiff, Nat.reduceLT, Nat.reduceBEq, ↓reduceIte, Int.reduceLE, Int.reduceLT, Int.reduceToNat, Int.reduceNeg, reduceCtorEq, Int.reduceEq, SF0, SF1, SF2, DDb0, DBc0, DBc1, DCe0, DCe1]
  all_goals first | exact vF (by simp only [Box.ok] at *; omega) | exact vT (by simp only [Box.ok] at *; omega) | exact vb (by simp only [Box.ok] at *; omega)

/-- What two boxes have in common. -/
def Box.meet (a b : Box) : Box := ⟨max a.X b.X, max a.Y b.Y, min (a.X + a.W) (b.X + b.W) - max a.X b.X, min (a.Y + a.H) (b.Y + b.H) - max a.Y b.Y⟩
def Box.zero : Box := ⟨0, 0, 0, 0⟩
def Box.meets (a b : Box) : Prop := a.ok ∧ b.ok ∧ 0 < (a.meet b).W ∧ 0 < (a.meet b).H
instance (a b : Box) : Decidable (a.meets b) := inferInstanceAs (Decidable (_ ∧ _))
/-- Inside. -/
def Box.inside (a b : Box) : Prop := a.ok ∧ b.ok ∧ b.X ≤ a.X ∧ b.Y ≤ a.Y ∧ a.X + a.W ≤ b.X + b.W ∧ a.Y + a.H ≤ b.Y + b.H
instance (a b : Box) : Decidable (a.inside b) := inferInstanceAs (Decidable (_ ∧ _))

theorem e_meetOfI : Enters Try.prog 120 := enters_of Try.func120 (by kernel_rfl) (by kernel_rfl)
theorem meetOfI_c (a b : Box) : ACalls Try.prog 120 [.agg a.cs, .agg b.cs] [] [] (fun r L => r = .tup [.agg (if a.meets b then a.meet b else Box.zero).cs, .val (.bool (decide (a.meets b)))] ∧ L = []) := by
  refine acalls_tm T_tt Try.func120 rfl e_meetOfI 67 rfl (W8 _ _ .any .any .any .any .any .any (W8 .any .any .any .any .any .any .any .any (W8 .any .any .any .any .any .any .any .any (W8 .any .any .any .any .any .any .any .any (W8 .any .any .any .any .any .any .any .any (W8 .any .any .any .any .any .any .any .any (W8 .any .any .any .any .any .any .any .any (W8 .any .any .any .any .any .any .any .any [.any, .any, .any, .any, .any])))))))) rfl (rv := [.cell 4 77, .tmp 5]) rfl (sx_sound (bl := []) T_tt _ _ _ ?_)
  simp (disch := omega) only [SX0, SX1, SX2, SX3, SX4, SX5, SX6, SX7, SX8, SU0, SY0, SY1, Nat.reduceAdd, Nat.reduceMul, Nat.reduceSub, Nat.reduceLeDiff, Nat.reduceEqDiff, Nat.reduceLT, Nat.reduceBEq, ↓reduceIte, Int.reduceLE, Int.reduceLT, Int.reduceToNat, Int.reduceNeg, reduceCtorEq, Int.reduceEq, SF0, SF1, SF2, DDb0, DBc0, DBc1, DCe0, DCe1]
  refine acall_one (validBoxI_c a) rfl rfl ?_
  simp (disch := omega) only [SX0, SX1, SX2, SX3, SX4, SX5, SX6, SX7, SX8, SU0, SY0, SY1, Nat.reduceAdd, Nat.reduceMul, Nat.reduceSub, Nat.reduceLeDiff, Nat.reduceEqDiff, Nat.reduceLT, Nat.reduceBEq, ↓reduceIte, Int.reduceLE, Int.reduceLT, Int.reduceToNat, Int.reduceNeg, reduceCtorEq, Int.reduceEq, SF0, SF1, SF2, DDb0, DBc0, DBc1, DCe0, DCe1]
  refine br_ndec (fun ha => ?_) (fun ha => ?_)
  · simp (disch := omega) only [SX0, SX1, SX2, SX3, SX4, SX5, SX6, SX7, SX8, SU0, SY0, SY1, Nat.reduceAdd, Nat.reduceMul, Nat.reduceSub, Nat.reduceLeDiff, Nat.reduceEqDiff, Nat.reduceLT, Nat.reduceBEq, ↓reduceIte, Int.reduceLE, Int.reduceLT, Int.reduceToNat, Int.reduceNeg, reduceCtorEq, Int.reduceEq, SF0, SF1, SF2, DDb0, DBc0, DBc1, DCe0, DCe1]
    exact fin_free rfl ⟨by simp only [Box.meets, ha, false_and, decide_false, if_false]; rfl, rfl⟩
  · simp (disch := omega) only [SX0, SX1, SX2, SX3, SX4, SX5, SX6, SX7, SX8, SU0, SY0, SY1, Nat.reduceAdd, Nat.reduceMul, Nat.reduceSub, Nat.reduceLeDiff, Nat.reduceEqDiff, Nat.reduceLT, Nat.reduceBEq, ↓reduceIte, Int.reduceLE, Int.reduceLT, Int.reduceToNat, Int.reduceNeg, reduceCtorEq, Int.reduceEq, SF0, SF1, SF2, DDb0, DBc0, DBc1, DCe0, DCe1]
    refine acall_one (validBoxI_c b) rfl rfl ?_
    simp (disch := omega) only [SX0, SX1, SX2, SX3, SX4, SX5, SX6, SX7, SX8, SU0, SY0, SY1, Nat.reduceAdd, Nat.reduceMul, Nat.reduceSub, Nat.reduceLeDiff, Nat.reduceEqDiff, Nat.reduceLT, Nat.reduceBEq, ↓reduceIte, Int.reduceLE, Int.reduceLT, Int.reduceToNat, Int.reduceNeg, reduceCtorEq, Int.reduceEq, SF0, SF1, SF2, DDb0, DBc0, DBc1, DCe0, DCe1]
    refine br_ndec (fun hb => ?_) (fun hb => ?_)
    · simp (disch := omega) only [SX0, SX1, SX2, SX3, SX4, SX5, SX6, SX7, SX8, SU0, SY0, SY1, Nat.reduceAdd, Nat.reduceMul, Nat.reduceSub, Nat.reduceLeDiff, Nat.reduceEqDiff, Nat.reduceLT, Nat.reduceBEq, ↓reduceIte, Int.reduceLE, Int.reduceLT, Int.reduceToNat, Int.reduceNeg, reduceCtorEq, Int.reduceEq, SF0, SF1, SF2, DDb0, DBc0, DBc1, DCe0, DCe1]
      exact fin_free rfl ⟨by simp only [Box.meets, hb, false_and, and_false, decide_false, if_false]; rfl, rfl⟩
    · have ha' := ha
      have hb' := hb
      unfold Box.ok at ha hb
      simp (disch := omega) only [SX0, SX1, SX2, SX3, SX4, SX5, SX6, SX7, SX8, SU0, SY0, SY1, Nat.reduceAdd, Nat.reduceMul, Nat.reduceSub, Nat.reduceLeDiff, Nat.reduceEqDiff, Nat.reduceLT, Nat.reduceBEq, ↓reduceIte, Int.reduceLE, Int.reduceLT, Int.reduceToNat, Int.reduceNeg, reduceCtorEq, Int.reduceEq, SF0, SF1, SF2, DDb0, DBc0, DBc1, DCe0, DCe1]
      repeat' first | with_reducible refine fin_val ⟨?_, rfl⟩ | with_reducible refine br_dec (fun hb => ?_) (fun hb => ?_) | with_reducible refine br_ndec (fun hb => ?_) (fun hb => ?_) | with_reducible refine br_bool (fun hb => ?_) (fun hb => ?_) | with_reducible refine pk_dec (fun hb => ?_) (fun hb => ?_) | with_reducible refine pk_ndec (fun hb => ?_) (fun hb => ?_) | with_reducible refine awp_drawA T_tt mixed (by decide +kernel) (by kernel_rfl) (by kernel_rfl) ?_ | simp (disch := omega) only [SX0, SX1, SX2, SX3, SX4, SX5, SX6, SX7, SX8, SU0, SY0, SY1, Nat.reduceAdd, Nat.reduceMul, Nat.reduceSub, Nat.reduceLeDiff, Nat.reduceEqDiff, Nat.reduceLT, Nat.reduceBEq, ↓reduceIte, Int.reduceLE, Int.reduceLT, Int.reduceToNat, Int.reduceNeg, reduceCtorEq, Int.reduceEq, SF0, SF1, SF2, DDb0, DBc0, DBc1, DCe0, DCe1]
      · have hm : ¬ a.meets b := by simp only [Box.meets, Box.meet, ha', hb', true_and]; omega
        exact fin_free rfl ⟨by rw [if_neg hm, decide_eq_false hm]; rfl, rfl⟩
      · have hm : ¬ a.meets b := by simp only [Box.meets, Box.meet, ha', hb', true_and]; omega
        exact fin_free rfl ⟨by rw [if_neg hm, decide_eq_false hm]; rfl, rfl⟩
      · have hm : a.meets b := by simp only [Box.meets, Box.meet, ha', hb', true_and]; omega
        exact fin_free rfl ⟨by rw [if_pos hm, decide_eq_true hm]; rfl, rfl⟩

theorem e_insideOfI : Enters Try.prog 58 := enters_of Try.func58 (by kernel_rfl) (by kernel_rfl)
theorem insideOfI_c (a b : Box) : ACalls Try.prog 58 [.agg a.cs, .agg b.cs] [] [] (fun r L => r = .val (.bool (decide (a.inside b))) ∧ L = []) := by
  refine acalls_tm T_tt Try.func58 rfl e_insideOfI 17 rfl (W8 _ _ .any .any .any .any .any .any (W8 .any .any .any .any .any .any .any .any [.any, .any, .any])) rfl (rv := [.tmp 4]) rfl (sx_sound (bl := []) T_tt _ _ _ ?_)
  simp (disch := omega) only [SX0, SX1, SX2, SX3, SX4, SX5, SX6, SX7, SX8, SU0, SY0, SY1, Nat.reduceAdd, Nat.reduceMul, Nat.reduceSub, Nat.reduceLeDiff, Nat.reduceEqDiff, Nat.reduceLT, Nat.reduceBEq, ↓reduceIte, Int.reduceLE, Int.reduceLT, Int.reduceToNat, Int.reduceNeg, reduceCtorEq, Int.reduceEq, SF0, SF1, SF2, DDb0, DBc0, DBc1, DCe0, DCe1]
  refine acall_one (meetOfI_c a b) rfl rfl ?_
  simp (disch := omega) only [SX0, SX1, SX2, SX3, SX4, SX5, SX6, SX7, SX8, SU0, SY0, SY1, Nat.reduceAdd, Nat.reduceMul, Nat.reduceSub, Nat.reduceLeDiff, Nat.reduceEqDiff, Nat.reduceLT, Nat.reduceBEq, ↓reduceIte, Int.reduceLE, Int.reduceLT, Int.reduceToNat, Int.reduceNeg, reduceCtorEq, Int.reduceEq, SF0, SF1, SF2, DDb0, DBc0, DBc1, DCe0, DCe1]
  refine br_dec (fun h => ?_) (fun h => ?_)
  · simp (disch := omega) only [SX0, SX1, SX2, SX3, SX4, SX5, SX6, SX7, SX8, SU0, SY0, SY1, Nat.reduceAdd, Nat.reduceMul, Nat.reduceSub, Nat.reduceLeDiff, Nat.reduceEqDiff, Nat.reduceLT, Nat.reduceBEq, ↓reduceIte, Int.reduceLE, Int.reduceLT, Int.reduceToNat, Int.reduceNeg, reduceCtorEq, Int.reduceEq, SF0, SF1, SF2, DDb0, DBc0, DBc1, DCe0, DCe1, if_pos h]
    refine fin_free rfl ⟨vb ⟨fun h2 => ?_, fun h2 => ?_⟩, rfl⟩
    · refine ⟨h.1, h.2.1, ?_⟩
      simp only [Box.meet, Box.ext_iff] at h2
      omega
    · simp only [Box.inside] at h2
      simp only [Box.meet, Box.ext_iff]; omega
  · simp (disch := omega) only [SX0, SX1, SX2, SX3, SX4, SX5, SX6, SX7, SX8, SU0, SY0, SY1, Nat.reduceAdd, Nat.reduceMul, Nat.reduceSub, Nat.reduceLeDiff, Nat.reduceEqDiff, Nat.reduceLT, Nat.reduceBEq, ↓reduceIte, Int.reduceLE, Int.reduceLT, Int.reduceToNat, Int.reduceNeg, reduceCtorEq, Int.reduceEq, SF0, SF1, SF2, DDb0, DBc0, DBc1, DCe0, DCe1]
    refine fin_free rfl ⟨vF (fun hi => h ?_), rfl⟩
    simp only [Box.inside, Box.ok] at hi
    refine ⟨hi.1, hi.2.1, ?_⟩
    simp only [Box.meet]; omega

end Go.Pc

/- Plans cut glass: the parts of a plan with their boxes, its cuts. -/
namespace Go.Pc
open Go Go.Proofs

/-- The boxes of both kids. -/
def Plan.split (p : Plan) (b : Box) : Box × Box :=
  if p.op = 2 then (⟨b.X, b.Y, p.at_, b.H⟩, ⟨b.X + p.at_, b.Y, b.W - p.at_, b.H⟩) else (⟨b.X, b.Y, b.W, p.at_⟩, ⟨b.X, b.Y + p.at_, b.W, b.H - p.at_⟩)

/-- All parts with their boxes, each before its kids. -/
def Plan.parts : Plan → Box → List (Plan × Box)
  | .mk op at_ pa tu ks, b =>
    (.mk op at_ pa tu ks, b) :: if op = 2 ∨ op = 3 then
      match ks with
      | [x, y] => x.parts ((Plan.mk op at_ pa tu ks).split b).1 ++ y.parts ((Plan.mk op at_ pa tu ks).split b).2
      | _ => []
    else []

theorem Plan.parts_cut {p x y : Plan} (hc : p.cut) (hk : p.ks = [x, y]) (b : Box) : p.parts b = (p, b) :: (x.parts (p.split b).1 ++ y.parts (p.split b).2) := by
  cases p; simp only [Plan.ks] at hk; subst hk
  rw [Plan.parts.eq_def]
  simp only [Plan.cut, Plan.op] at hc
  simp only [if_pos hc]
theorem Plan.parts_leaf {p : Plan} (hc : ¬ p.cut) (b : Box) : p.parts b = [(p, b)] := by
  cases p
  rw [Plan.parts.eq_def]
  simp only [Plan.cut, Plan.op] at hc
  simp only [if_neg hc]

theorem Plan.nodes_two {p x y : Plan} (hk : p.ks = [x, y]) : p.nodes = 1 + x.nodes + y.nodes := by
  rw [Plan.nodes_eq, hk]; simp [Plan.nodesL]; omega
theorem Plan.nodes_leaf {p : Plan} (hw : p.wf = true) (hc : ¬ p.cut) : p.nodes = 1 := by
  have h := ((Plan.wf_iff p).1 hw).1
  unfold Plan.good at h
  rw [if_neg hc] at h
  rw [Plan.nodes_eq, List.length_eq_zero_iff.1 h.1]; rfl

/-- Induction over well formed plans. -/
theorem Plan.wf_ind {M : Plan → Prop} (h1 : ∀ p, p.wf = true → ¬ p.cut → M p) (h2 : ∀ p x y, p.wf = true → p.cut → p.ks = [x, y] → x.wf = true → y.wf = true → M x → M y → M p) : ∀ p, p.wf = true → M p := by
  have : ∀ n p, p.nodes ≤ n → p.wf = true → M p := by
    intro n
    induction n with
    | zero => intro p h; have := p.nodes_pos; omega
    | succ n ih =>
      intro p h hw
      by_cases hc : p.cut
      · obtain ⟨x, y, hk, hx, hy, nx, ny⟩ := Plan.two hw hc
        exact h2 p x y hw hc hk hx hy (ih x (by omega) hx) (ih y (by omega) hy)
      · exact h1 p hw hc
  exact fun p => this _ p (Nat.le_refl _)

theorem Plan.parts_len : ∀ (p : Plan), p.wf = true → ∀ b, (p.parts b).length = p.nodes :=
  Plan.wf_ind (fun p hw hc b => by rw [Plan.parts_leaf hc, Plan.nodes_leaf hw hc]; rfl) (fun p x y hw hc hk hx hy ix iy b => by
    rw [Plan.parts_cut hc hk, Plan.nodes_two hk]; simp [ix, iy]; omega)

/-- Glass in its place. -/
def Box.sane (b : Box) : Prop := 0 ≤ b.X ∧ 0 ≤ b.Y ∧ 1 ≤ b.W ∧ 1 ≤ b.H ∧ b.X + b.W ≤ 200 ∧ b.Y + b.H ≤ 200
theorem Box.sane_ok {b : Box} (h : b.sane) : b.ok := by unfold Box.sane at h; unfold Box.ok; omega

/-- A cut that fits. -/
theorem Plan.fits_cut {k : Work} {p x y : Plan} (hc : p.cut) (hk : p.ks = [x, y]) {b : Box} (hf : p.fits k b.W b.H = true) :
    x.fits k (p.split b).1.W (p.split b).1.H = true ∧ y.fits k (p.split b).2.W (p.split b).2.H = true ∧ 1 ≤ p.at_ ∧ (p.op = 2 → p.at_ ≤ b.W - 1) ∧ (p.op ≠ 2 → p.at_ ≤ b.H - 1) := by
  unfold Plan.split
  rcases hc with h | h
  · rw [Plan.fits_down k p x y _ _ h hk] at hf
    simp only [Bool.and_eq_true, decide_eq_true_eq] at hf
    simp only [if_pos h]
    exact ⟨hf.1.2, hf.2, hf.1.1.1, fun _ => hf.1.1.2, fun g => absurd h g⟩
  · have h2 : ¬ p.op = 2 := by omega
    rw [Plan.fits_across k p x y _ _ h hk] at hf
    simp only [Bool.and_eq_true, decide_eq_true_eq] at hf
    simp only [if_neg h2]
    exact ⟨hf.1.2, hf.2, hf.1.1.1, fun g => absurd g h2, fun _ => hf.1.1.2⟩

theorem Plan.split_sane2 {p : Plan} {b : Box} (hb : b.sane) (h1 : 1 ≤ p.at_) (h2 : p.op = 2 → p.at_ ≤ b.W - 1) (h3 : p.op ≠ 2 → p.at_ ≤ b.H - 1) : (p.split b).1.sane ∧ (p.split b).2.sane := by
  obtain ⟨X, Y, W, H⟩ := b
  unfold Plan.split
  unfold Box.sane at hb
  simp only at hb h2 h3
  by_cases h : p.op = 2
  · have := h2 h
    simp only [if_pos h, Box.sane]
    omega
  · have := h3 h
    simp only [if_neg h, Box.sane]
    omega

theorem Plan.split_sane {k : Work} {p x y : Plan} (hc : p.cut) (hk : p.ks = [x, y]) {b : Box} (hb : b.sane) (hf : p.fits k b.W b.H = true) : (p.split b).1.sane ∧ (p.split b).2.sane ∧
    (p.split b).1.inside b ∧ (p.split b).1 ≠ b ∧ (p.split b).2.inside b ∧ (p.split b).2 ≠ b := by
  obtain ⟨_, _, h1, h2, h3⟩ := Plan.fits_cut hc hk hf
  obtain ⟨X, Y, W, H⟩ := b
  unfold Plan.split
  unfold Box.sane at hb
  simp only at hb h2 h3
  by_cases h : p.op = 2
  · have := h2 h
    simp only [if_pos h, Box.sane, Box.inside, Box.ok, ne_eq, Box.mk.injEq]
    omega
  · have := h3 h
    simp only [if_neg h, Box.sane, Box.inside, Box.ok, ne_eq, Box.mk.injEq]
    omega

/-- All parts of glass that is cut lie in it. -/
theorem Box.inside_trans {a b c : Box} (h : a.inside b) (h' : b.inside c) : a.inside c := by
  exact ⟨h.1, h'.2.1, Int.le_trans h'.2.2.1 h.2.2.1, Int.le_trans h'.2.2.2.1 h.2.2.2.1, Int.le_trans h.2.2.2.2.1 h'.2.2.2.2.1, Int.le_trans h.2.2.2.2.2 h'.2.2.2.2.2⟩
theorem Box.inside_self {a : Box} (h : a.sane) : a.inside a := by
  have := Box.sane_ok h
  exact ⟨this, this, Int.le_refl _, Int.le_refl _, Int.le_refl _, Int.le_refl _⟩

/-- The cuts by number, each with the number of the cut above it. -/
def Plan.knots : Plan → Int → Int → List (Int × Int)
  | .mk op _ _ _ ks, n, above =>
    if op = 2 ∨ op = 3 then
      match ks with
      | [x, y] => (n, above) :: (x.knots (n + 1) n ++ y.knots (n + 1 + x.nodes) n)
      | _ => []
    else []

theorem Plan.knots_cut {p x y : Plan} (hc : p.cut) (hk : p.ks = [x, y]) (n a : Int) : p.knots n a = (n, a) :: (x.knots (n + 1) n ++ y.knots (n + 1 + x.nodes) n) := by
  cases p; simp only [Plan.ks] at hk; subst hk
  rw [Plan.knots.eq_def]
  simp only [Plan.cut, Plan.op] at hc
  simp only [if_pos hc]
theorem Plan.knots_leaf {p : Plan} (hc : ¬ p.cut) (n a : Int) : p.knots n a = [] := by
  cases p
  rw [Plan.knots.eq_def]
  simp only [Plan.cut, Plan.op] at hc
  simp only [if_neg hc]

/-- Where the numbers of cuts lie. -/
theorem Plan.knots_rng : ∀ (p : Plan), p.wf = true → ∀ n a, ∀ q ∈ p.knots n a, n ≤ q.1 ∧ q.1 < n + p.nodes ∧ (q.2 = a ∨ (n ≤ q.2 ∧ q.2 < q.1)) ∧ (q.1 = n → q.2 = a) :=
  Plan.wf_ind (fun p hw hc n a q hq => by rw [Plan.knots_leaf hc] at hq; cases hq) (fun p x y hw hc hk hx hy ix iy n a q hq => by
    rw [Plan.knots_cut hc hk] at hq
    have := Plan.nodes_two hk
    have := x.nodes_pos
    simp only [List.mem_cons, List.mem_append] at hq
    rcases hq with rfl | hq | hq
    · exact ⟨Int.le_refl _, by simp only; omega, .inl rfl, fun _ => rfl⟩
    · have := ix _ _ q hq
      omega
    · have := iy _ _ q hq
      omega)

end Go.Pc

/- Works and plans of the program, and of the reference: valid ones. -/
namespace Go.Pc
open Go Go.Proofs

def Work.ok (k : Work) : Prop := (1 ≤ k.W ∧ k.W ≤ 200) ∧ (1 ≤ k.H ∧ k.H ≤ 200) ∧ (∀ p ∈ k.Ps, p.ok) ∧ k.Ps.length ≤ 24
theorem Work.under (k : Work) (m : Nat) : underL m k.cs = true := rfl
instance (k : Work) : Decidable k.ok := inferInstanceAs (Decidable (_ ∧ _))

theorem e_validWorkS : Enters Try.prog 82 := enters_of Try.func82 (by kernel_rfl) (by kernel_rfl)
theorem validWorkS_c (k : Work) (hk : k.Ps.length < 2 ^ 40) : ACalls Try.prog 82 [.agg k.cs] [] [] (fun r L => r = .val (.bool (decide k.ok)) ∧ L = []) := by
  refine acalls_tm T_tt Try.func82 rfl e_validWorkS 15 rfl (W8 _ .any .any .any .any .any .any .any (W8 .any .any .any .any .any .any .any .any [])) rfl (rv := [.tmp 2]) rfl (sx_sound (bl := []) T_tt _ _ _ ?_)
  simp (disch := omega) only [SX0, SX1, SX2, SX3, SX4, SX5, SX6, SX7, SX8, SU0, SY0, SY1, Nat.reduceAdd, Nat.reduceMul, Nat.reduceSub, Nat.reduceLeDiff, Nat.reduceEqDiff, Nat.reduceLT, Nat.reduceBEq, ↓reduceIte, Int.reduceLE, Int.reduceLT, Int.reduceToNat, Int.reduceNeg, reduceCtorEq, Int.reduceEq, SF0, SF1, SF2, DDb0, DBc0, DBc1, DCe0, DCe1]
  refine acall_one (inRange_c _ _ _) rfl rfl ?_
  simp (disch := omega) only [SX0, SX1, SX2, SX3, SX4, SX5, SX6, SX7, SX8, SU0, SY0, SY1, Nat.reduceAdd, Nat.reduceMul, Nat.reduceSub, Nat.reduceLeDiff, Nat.reduceEqDiff, Nat.reduceLT, Nat.reduceBEq, ↓reduceIte, Int.reduceLE, Int.reduceLT, Int.reduceToNat, Int.reduceNeg, reduceCtorEq, Int.reduceEq, SF0, SF1, SF2, DDb0, DBc0, DBc1, DCe0, DCe1]
  refine br_dec (fun h => ?_) (fun h => ?_)
  · simp (disch := omega) only [SX0, SX1, SX2, SX3, SX4, SX5, SX6, SX7, SX8, SU0, SY0, SY1, Nat.reduceAdd, Nat.reduceMul, Nat.reduceSub, Nat.reduceLeDiff, Nat.reduceEqDiff, Nat.reduceLT, Nat.reduceBEq, ↓reduceIte, Int.reduceLE, Int.reduceLT, Int.reduceToNat, Int.reduceNeg, reduceCtorEq, Int.reduceEq, SF0, SF1, SF2, DDb0, DBc0, DBc1, DCe0, DCe1]
    refine acall_one (inRange_c _ _ _) rfl rfl ?_
    simp (disch := omega) only [SX0, SX1, SX2, SX3, SX4, SX5, SX6, SX7, SX8, SU0, SY0, SY1, Nat.reduceAdd, Nat.reduceMul, Nat.reduceSub, Nat.reduceLeDiff, Nat.reduceEqDiff, Nat.reduceLT, Nat.reduceBEq, ↓reduceIte, Int.reduceLE, Int.reduceLT, Int.reduceToNat, Int.reduceNeg, reduceCtorEq, Int.reduceEq, SF0, SF1, SF2, DDb0, DBc0, DBc1, DCe0, DCe1]
    refine br_dec (fun h2 => ?_) (fun h2 => ?_)
    · simp (disch := omega) only [SX0, SX1, SX2, SX3, SX4, SX5, SX6, SX7, SX8, SU0, SY0, SY1, Nat.reduceAdd, Nat.reduceMul, Nat.reduceSub, Nat.reduceLeDiff, Nat.reduceEqDiff, Nat.reduceLT, Nat.reduceBEq, ↓reduceIte, Int.reduceLE, Int.reduceLT, Int.reduceToNat, Int.reduceNeg, reduceCtorEq, Int.reduceEq, SF0, SF1, SF2, DDb0, DBc0, DBc1, DCe0, DCe1]
      refine acall_one (validPanes_c k.Ps hk) rfl rfl ?_
      simp (disch := omega) only [SX0, SX1, SX2, SX3, SX4, SX5, SX6, SX7, SX8, SU0, SY0, SY1, Nat.reduceAdd, Nat.reduceMul, Nat.reduceSub, Nat.reduceLeDiff, Nat.reduceEqDiff, Nat.reduceLT, Nat.reduceBEq, ↓reduceIte, Int.reduceLE, Int.reduceLT, Int.reduceToNat, Int.reduceNeg, reduceCtorEq, Int.reduceEq, SF0, SF1, SF2, DDb0, DBc0, DBc1, DCe0, DCe1]
      refine fin_val ⟨vb ?_, rfl⟩
      simp only [Work.ok, h, h2, true_and]
    · simp (disch := omega) only [SX0, SX1, SX2, SX3, SX4, SX5, SX6, SX7, SX8, SU0, SY0, SY1, Nat.reduceAdd, Nat.reduceMul, Nat.reduceSub, Nat.reduceLeDiff, Nat.reduceEqDiff, Nat.reduceLT, Nat.reduceBEq, ↓reduceIte, Int.reduceLE, Int.reduceLT, Int.reduceToNat, Int.reduceNeg, reduceCtorEq, Int.reduceEq, SF0, SF1, SF2, DDb0, DBc0, DBc1, DCe0, DCe1]
      exact fin_val ⟨vF fun hh => h2 hh.2.1, rfl⟩
  · simp (disch := omega) only [SX0, SX1, SX2, SX3, SX4, SX5, SX6, SX7, SX8, SU0, SY0, SY1, Nat.reduceAdd, Nat.reduceMul, Nat.reduceSub, Nat.reduceLeDiff, Nat.reduceEqDiff, Nat.reduceLT, Nat.reduceBEq, ↓reduceIte, Int.reduceLE, Int.reduceLT, Int.reduceToNat, Int.reduceNeg, reduceCtorEq, Int.reduceEq, SF0, SF1, SF2, DDb0, DBc0, DBc1, DCe0, DCe1]
    exact fin_val ⟨vF fun hh => h hh.1, rfl⟩

theorem e_validPaneI : Enters Try.prog 125 := enters_of Try.func125 (by kernel_rfl) (by kernel_rfl)
theorem validPaneI_c (p : Pane) : ACalls Try.prog 125 [.agg p.cs] [] [] (fun r L => r = .val (.bool (decide p.ok)) ∧ L = []) := by
  refine acalls_tm T_tt Try.func125 rfl e_validPaneI 30 rfl (W8 _ .any .any .any .any .any .any .any (W8 .any .any .any .any .any .any .any .any (W8 .any .any .any .any .any .any .any .any [.any, .any, .any, .any, .any, .any, .any]))) rfl (rv := [.tmp 2]) rfl (sx_sound (bl := []) T_tt _ _ _ ?_)
  repeat' first | with_reducible refine fin_val ⟨?_, rfl⟩ | with_reducible refine br_dec (fun hb => ?_) (fun hb => ?_) | with_reducible refine br_ndec (fun hb => ?_) (fun hb => ?_) | with_reducible refine br_bool (fun hb => ?_) (fun hb => ?_) | with_reducible refine pk_dec (fun hb => ?_) (fun hb => ?_) | with_reducible refine pk_ndec (fun hb => ?_) (fun hb => ?_) | with_reducible refine awp_drawA T_tt mixed (by decide +kernel) (by kernel_rfl) (by kernel_rfl) ?_ | simp (disch := omega) only [SX0, SX1, SX2, SX3, SX4, SX5, SX6, SX7, SX8, SU0, SY0, SY1, Nat.reduceAdd, Nat.reduceMul, Nat.reduceSub, Nat.reduceLeDiff, Nat.reduceEqDiff, Nat.reduceLT, Nat.reduceBEq, ↓reduceIte, Int.reduceLE, Int.reduceLT, Int.reduceToNat, Int.reduceNeg, reduceCtorEq, Int.reduceEq, SF0, SF1, SF2, DDb0, DBc0, DBc1, DCe0, DCe1]
  all_goals first | exact vF (by simp only [Pane.ok] at *; omega) | exact vT (by simp only [Pane.ok] at *; omega) | exact vb (by simp only [Pane.ok] at *; omega)

theorem e_validWorkI : Enters Try.prog 68 := enters_of Try.func68 (by kernel_rfl) (by kernel_rfl)
theorem validWorkI_c (k : Work) (hk : k.Ps.length < 2 ^ 40) : ACalls Try.prog 68 [.agg k.cs] [] [] (fun r L => r = .val (.bool (decide k.ok)) ∧ L = []) := by
  refine acalls_tm T_tt Try.func68 rfl e_validWorkI 39 rfl (W8 _ .any .any .any .any .any .any .any (W8 .any .any .any .any .any .any .any .any (W8 .any .any .any .any .any .any .any .any (W8 .any .any .any .any .any .any .any .any (W8 .any .any .any .any .any .any .any .any []))))) rfl (rv := [.tmp 2]) rfl (sx_sound (bl := []) T_tt _ _ _ ?_)
  repeat' first | with_reducible refine fin_val ⟨?_, rfl⟩ | with_reducible refine br_dec (fun hb => ?_) (fun hb => ?_) | with_reducible refine br_ndec (fun hb => ?_) (fun hb => ?_) | with_reducible refine br_bool (fun hb => ?_) (fun hb => ?_) | with_reducible refine pk_dec (fun hb => ?_) (fun hb => ?_) | with_reducible refine pk_ndec (fun hb => ?_) (fun hb => ?_) | with_reducible refine awp_drawA T_tt mixed (by decide +kernel) (by kernel_rfl) (by kernel_rfl) ?_ | simp (disch := omega) only [SX0, SX1, SX2, SX3, SX4, SX5, SX6, SX7, SX8, SU0, SY0, SY1, Nat.reduceAdd, Nat.reduceMul, Nat.reduceSub, Nat.reduceLeDiff, Nat.reduceEqDiff, Nat.reduceLT, Nat.reduceBEq, ↓reduceIte, Int.reduceLE, Int.reduceLT, Int.reduceToNat, Int.reduceNeg, reduceCtorEq, Int.reduceEq, SF0, SF1, SF2, DDb0, DBc0, DBc1, DCe0, DCe1]
  all_goals first | exact vF (fun hh => by unfold Work.ok at hh; omega) | skip
  rename_i h1 h2 h3 h4
  with_reducible refine awp_loop_h 4 36 (fun (i : Nat) => [(30, .sl (k.Ps.map Pane.cs)), (31, .val (.int .i64 k.Ps.length)), (32, .val (.int .i64 i))]) (fun _ => [.cells k.cs]) (fun i => i ≤ k.Ps.length ∧ ∀ p ∈ k.Ps.take i, p.ok) (fun i => k.Ps.length - i) 0 ⟨Nat.zero_le _, by simp⟩ ?_ (fun i hi => sx_sound (bl := []) T_tt _ _ _ ?_)
  · simp (disch := omega) only [SX0, SX1, SX2, SX3, SX4, SX5, SX6, SX7, SX8, SU0, SY0, SY1, Nat.reduceAdd, Nat.reduceMul, Nat.reduceSub, Nat.reduceLeDiff, Nat.reduceEqDiff, Nat.reduceLT, Nat.reduceBEq, ↓reduceIte, Int.reduceLE, Int.reduceLT, Int.reduceToNat, Int.reduceNeg, reduceCtorEq, Int.reduceEq, SF0, SF1, SF2, DDb0, DBc0, DBc1, DCe0, DCe1]
    (refine wk_le ?_ ?_ ?_; (focus (simp [W8, leTm, leAV, AV.under, underL, Work.under]; done)); (focus (simp [leL, OB.under, underL, AV.under, Work.under]; done)); (focus (simp; done)))
  · simp (disch := omega) only [SX0, SX1, SX2, SX3, SX4, SX5, SX6, SX7, SX8, SU0, SY0, SY1, Nat.reduceAdd, Nat.reduceMul, Nat.reduceSub, Nat.reduceLeDiff, Nat.reduceEqDiff, Nat.reduceLT, Nat.reduceBEq, ↓reduceIte, Int.reduceLE, Int.reduceLT, Int.reduceToNat, Int.reduceNeg, reduceCtorEq, Int.reduceEq, SF0, SF1, SF2, DDb0, DBc0, DBc1, DCe0, DCe1]
    refine br_dec (fun h => ?_) (fun h => ?_)
    · obtain ⟨p, hp⟩ := get_lt (l := k.Ps) (i := i) (by omega)
      simp (disch := omega) only [SX0, SX1, SX2, SX3, SX4, SX5, SX6, SX7, SX8, SU0, SY0, SY1, Nat.reduceAdd, Nat.reduceMul, Nat.reduceSub, Nat.reduceLeDiff, Nat.reduceEqDiff, Nat.reduceLT, Nat.reduceBEq, ↓reduceIte, Int.reduceLE, Int.reduceLT, Int.reduceToNat, Int.reduceNeg, reduceCtorEq, Int.reduceEq, SF0, SF1, SF2, DDb0, DBc0, DBc1, DCe0, DCe1, hp]
      refine acall_one (validPaneI_c p) rfl rfl ?_
      simp (disch := omega) only [SX0, SX1, SX2, SX3, SX4, SX5, SX6, SX7, SX8, SU0, SY0, SY1, Nat.reduceAdd, Nat.reduceMul, Nat.reduceSub, Nat.reduceLeDiff, Nat.reduceEqDiff, Nat.reduceLT, Nat.reduceBEq, ↓reduceIte, Int.reduceLE, Int.reduceLT, Int.reduceToNat, Int.reduceNeg, reduceCtorEq, Int.reduceEq, SF0, SF1, SF2, DDb0, DBc0, DBc1, DCe0, DCe1]
      refine br_ndec (fun hk => ?_) (fun hk => ?_)
      · simp (disch := omega) only [SX0, SX1, SX2, SX3, SX4, SX5, SX6, SX7, SX8, SU0, SY0, SY1, Nat.reduceAdd, Nat.reduceMul, Nat.reduceSub, Nat.reduceLeDiff, Nat.reduceEqDiff, Nat.reduceLT, Nat.reduceBEq, ↓reduceIte, Int.reduceLE, Int.reduceLT, Int.reduceToNat, Int.reduceNeg, reduceCtorEq, Int.reduceEq, SF0, SF1, SF2, DDb0, DBc0, DBc1, DCe0, DCe1]
        exact fin_val ⟨vF fun hh => take_not hp hk hh.2.2.1, rfl⟩
      · simp (disch := omega) only [SX0, SX1, SX2, SX3, SX4, SX5, SX6, SX7, SX8, SU0, SY0, SY1, Nat.reduceAdd, Nat.reduceMul, Nat.reduceSub, Nat.reduceLeDiff, Nat.reduceEqDiff, Nat.reduceLT, Nat.reduceBEq, ↓reduceIte, Int.reduceLE, Int.reduceLT, Int.reduceToNat, Int.reduceNeg, reduceCtorEq, Int.reduceEq, SF0, SF1, SF2, DDb0, DBc0, DBc1, DCe0, DCe1]
        refine ⟨i + 1, ⟨by omega, take_next hp hi.2 hk⟩, by omega, ?_⟩
        (refine wk_le ?_ ?_ ?_; (focus (simp [W8, leTm, leAV, AV.under, underL, Work.under]; done)); (focus (simp [leL, OB.under, underL, AV.under, Work.under]; done)); (focus (simp; done)))
    · simp (disch := omega) only [SX0, SX1, SX2, SX3, SX4, SX5, SX6, SX7, SX8, SU0, SY0, SY1, Nat.reduceAdd, Nat.reduceMul, Nat.reduceSub, Nat.reduceLeDiff, Nat.reduceEqDiff, Nat.reduceLT, Nat.reduceBEq, ↓reduceIte, Int.reduceLE, Int.reduceLT, Int.reduceToNat, Int.reduceNeg, reduceCtorEq, Int.reduceEq, SF0, SF1, SF2, DDb0, DBc0, DBc1, DCe0, DCe1]
      refine fin_val ⟨vT ⟨by omega, by omega, take_all (by omega) hi.2, by omega⟩, rfl⟩

theorem e_isCutI : Enters Try.prog 136 := enters_of Try.func136 (by kernel_rfl) (by kernel_rfl)
theorem isCutI_c (p : Plan) : ACalls Try.prog 136 [.agg p.cs] [] [] (fun r L => r = .val (.bool (decide p.cut)) ∧ L = []) := by
  refine acalls_tm T_tt Try.func136 rfl e_isCutI 10 rfl (W8 _ .any .any .any .any .any .any .any [.any, .any, .any]) rfl (rv := [.tmp 2]) rfl (sx_sound (bl := []) T_tt _ _ _ ?_)
  repeat' first | with_reducible refine fin_val ⟨?_, rfl⟩ | with_reducible refine br_dec (fun hb => ?_) (fun hb => ?_) | with_reducible refine br_ndec (fun hb => ?_) (fun hb => ?_) | with_reducible refine br_bool (fun hb => ?_) (fun hb => ?_) | with_reducible refine pk_dec (fun hb => ?_) (fun hb => ?_) | with_reducible refine pk_ndec (fun hb => ?_) (fun hb => ?_) | with_reducible refine awp_drawA T_tt mixed (by decide +kernel) (by kernel_rfl) (by kernel_rfl) ?_ | simp (disch := omega) only [SX0, SX1, SX2, SX3, SX4, SX5, SX6, SX7, SX8, SU0, SY0, SY1, Nat.reduceAdd, Nat.reduceMul, Nat.reduceSub, Nat.reduceLeDiff, Nat.reduceEqDiff, Nat.reduceLT, Nat.reduceBEq, ↓reduceIte, Int.reduceLE, Int.reduceLT, Int.reduceToNat, Int.reduceNeg, reduceCtorEq, Int.reduceEq, SF0, SF1, SF2, DDb0, DBc0, DBc1, DCe0, DCe1]
  all_goals first | exact vF (by simp only [Plan.cut] at *; omega) | exact vT (by simp only [Plan.cut] at *; omega) | exact vb (by simp only [Plan.cut] at *; omega)

theorem e_splitBoxI : Enters Try.prog 112 := enters_of Try.func112 (by kernel_rfl) (by kernel_rfl)
theorem splitBoxI_c (p : Plan) (b : Box) (h : (-1000000000000 ≤ p.at_ ∧ p.at_ ≤ 1000000000000) ∧ (-1000000000000 ≤ b.X ∧ b.X ≤ 1000000000000) ∧ (-1000000000000 ≤ b.Y ∧ b.Y ≤ 1000000000000) ∧ (-1000000000000 ≤ b.W ∧ b.W ≤ 1000000000000) ∧ (-1000000000000 ≤ b.H ∧ b.H ≤ 1000000000000)) :
    ACalls Try.prog 112 [.agg p.cs, .agg b.cs] [] [] (fun r L => r = .tup [.agg (p.split b).1.cs, .agg (p.split b).2.cs] ∧ L = []) := by
  refine acalls_tm T_tt Try.func112 rfl e_splitBoxI 43 rfl (W8 _ _ .any .any .any .any .any .any (W8 .any .any .any .any .any .any .any .any (W8 .any .any .any .any .any .any .any .any (W8 .any .any .any .any .any .any .any .any (W8 .any .any .any .any .any .any .any .any [.any, .any, .any, .any, .any]))))) rfl (rv := [.cell 4 77, .cell 5 77]) rfl (sx_sound (bl := []) T_tt _ _ _ ?_)
  simp (disch := omega) only [SX0, SX1, SX2, SX3, SX4, SX5, SX6, SX7, SX8, SU0, SY0, SY1, Nat.reduceAdd, Nat.reduceMul, Nat.reduceSub, Nat.reduceLeDiff, Nat.reduceEqDiff, Nat.reduceLT, Nat.reduceBEq, ↓reduceIte, Int.reduceLE, Int.reduceLT, Int.reduceToNat, Int.reduceNeg, reduceCtorEq, Int.reduceEq, SF0, SF1, SF2, DDb0, DBc0, DBc1, DCe0, DCe1]
  refine awp_float (bl := []) T_tt mixed [0, 1, 2, 3] [0, 1] [(4, [(0, .f 8), (2, .a 6 77), (3, .a 7 77)]), (5, [(1, .f 9)])] [] (by kernel_rfl) (by kernel_rfl) ?_
  simp (disch := omega) only [SX0, SX1, SX2, SX3, SX4, SX5, SX6, SX7, SX8, SU0, SY0, SY1, Nat.reduceAdd, Nat.reduceMul, Nat.reduceSub, Nat.reduceLeDiff, Nat.reduceEqDiff, Nat.reduceLT, Nat.reduceBEq, ↓reduceIte, Int.reduceLE, Int.reduceLT, Int.reduceToNat, Int.reduceNeg, reduceCtorEq, Int.reduceEq, SF0, SF1, SF2, DDb0, DBc0, DBc1, DCe0, DCe1, SX0]
  repeat' first | with_reducible refine fin_val ⟨?_, rfl⟩ | with_reducible refine br_dec (fun hb => ?_) (fun hb => ?_) | with_reducible refine br_ndec (fun hb => ?_) (fun hb => ?_) | with_reducible refine br_bool (fun hb => ?_) (fun hb => ?_) | with_reducible refine pk_dec (fun hb => ?_) (fun hb => ?_) | with_reducible refine pk_ndec (fun hb => ?_) (fun hb => ?_) | with_reducible refine awp_drawA T_tt mixed (by decide +kernel) (by kernel_rfl) (by kernel_rfl) ?_ | simp (disch := omega) only [SX0, SX1, SX2, SX3, SX4, SX5, SX6, SX7, SX8, SU0, SY0, SY1, Nat.reduceAdd, Nat.reduceMul, Nat.reduceSub, Nat.reduceLeDiff, Nat.reduceEqDiff, Nat.reduceLT, Nat.reduceBEq, ↓reduceIte, Int.reduceLE, Int.reduceLT, Int.reduceToNat, Int.reduceNeg, reduceCtorEq, Int.reduceEq, SF0, SF1, SF2, DDb0, DBc0, DBc1, DCe0, DCe1, Box.cs]
  · refine awp_float (bl := []) T_tt mixed [0, 1, 2, 3, 4, 5] [0, 1] [(2, [(0, .f 43)]), (3, [(1, .f 44)])] [] (by kernel_rfl) (by kernel_rfl) ?_
    simp (disch := omega) only [SX0, SX1, SX2, SX3, SX4, SX5, SX6, SX7, SX8, SU0, SY0, SY1, Nat.reduceAdd, Nat.reduceMul, Nat.reduceSub, Nat.reduceLeDiff, Nat.reduceEqDiff, Nat.reduceLT, Nat.reduceBEq, ↓reduceIte, Int.reduceLE, Int.reduceLT, Int.reduceToNat, Int.reduceNeg, reduceCtorEq, Int.reduceEq, SF0, SF1, SF2, DDb0, DBc0, DBc1, DCe0, DCe1, SX0, Box.cs]
    exact fin_free rfl ⟨by simp only [Plan.split, if_pos hb], rfl⟩
  · refine awp_float (bl := []) T_tt mixed [0, 1, 2, 3, 4, 5] [0, 1] [(2, [(0, .f 43)]), (3, [(1, .f 44)])] [] (by kernel_rfl) (by kernel_rfl) ?_
    simp (disch := omega) only [SX0, SX1, SX2, SX3, SX4, SX5, SX6, SX7, SX8, SU0, SY0, SY1, Nat.reduceAdd, Nat.reduceMul, Nat.reduceSub, Nat.reduceLeDiff, Nat.reduceEqDiff, Nat.reduceLT, Nat.reduceBEq, ↓reduceIte, Int.reduceLE, Int.reduceLT, Int.reduceToNat, Int.reduceNeg, reduceCtorEq, Int.reduceEq, SF0, SF1, SF2, DDb0, DBc0, DBc1, DCe0, DCe1, SX0, Box.cs]
    exact fin_free rfl ⟨by simp only [Plan.split, if_neg hb], rfl⟩

theorem e_paneFillsI : Enters Try.prog 126 := enters_of Try.func126 (by kernel_rfl) (by kernel_rfl)
theorem paneFillsI_c (k : Work) (pa : Int) (tu : Bool) (w h : Int) : ACalls Try.prog 126 [.agg k.cs, .val (.int .i64 pa), .val (.bool tu), .val (.int .i64 w), .val (.int .i64 h)] [] [] (fun r L => r = .val (.bool (fills k pa tu w h)) ∧ L = []) := by
  refine acalls_tm T_tt Try.func126 rfl e_paneFillsI 53 rfl (W8 _ _ _ _ _ .any .any .any (W8 .any .any .any .any .any .any .any .any (W8 .any .any .any .any .any .any .any .any (W8 .any .any .any .any .any .any .any .any (W8 .any .any .any .any .any .any .any .any (W8 .any .any .any .any .any .any .any .any (W8 .any .any .any .any .any .any .any .any [.any, .any]))))))) rfl (rv := [.tmp 10]) rfl (sx_sound (bl := []) T_tt _ _ _ ?_)
  simp (disch := omega) only [SX0, SX1, SX2, SX3, SX4, SX5, SX6, SX7, SX8, SU0, SY0, SY1, Nat.reduceAdd, Nat.reduceMul, Nat.reduceSub, Nat.reduceLeDiff, Nat.reduceEqDiff, Nat.reduceLT, Nat.reduceBEq, ↓reduceIte, Int.reduceLE, Int.reduceLT, Int.reduceToNat, Int.reduceNeg, reduceCtorEq, Int.reduceEq, SF0, SF1, SF2, DDb0, DBc0, DBc1, DCe0, DCe1]
  refine br_dec (fun h1 => ?_) (fun h1 => ?_)
  · simp (disch := omega) only [SX0, SX1, SX2, SX3, SX4, SX5, SX6, SX7, SX8, SU0, SY0, SY1, Nat.reduceAdd, Nat.reduceMul, Nat.reduceSub, Nat.reduceLeDiff, Nat.reduceEqDiff, Nat.reduceLT, Nat.reduceBEq, ↓reduceIte, Int.reduceLE, Int.reduceLT, Int.reduceToNat, Int.reduceNeg, reduceCtorEq, Int.reduceEq, SF0, SF1, SF2, DDb0, DBc0, DBc1, DCe0, DCe1]
    exact fin_val ⟨by rw [fills_out k _ _ _ _ (by omega)], rfl⟩
  · simp (disch := omega) only [SX0, SX1, SX2, SX3, SX4, SX5, SX6, SX7, SX8, SU0, SY0, SY1, Nat.reduceAdd, Nat.reduceMul, Nat.reduceSub, Nat.reduceLeDiff, Nat.reduceEqDiff, Nat.reduceLT, Nat.reduceBEq, ↓reduceIte, Int.reduceLE, Int.reduceLT, Int.reduceToNat, Int.reduceNeg, reduceCtorEq, Int.reduceEq, SF0, SF1, SF2, DDb0, DBc0, DBc1, DCe0, DCe1]
    refine br_dec (fun h2 => ?_) (fun h2 => ?_)
    · simp (disch := omega) only [SX0, SX1, SX2, SX3, SX4, SX5, SX6, SX7, SX8, SU0, SY0, SY1, Nat.reduceAdd, Nat.reduceMul, Nat.reduceSub, Nat.reduceLeDiff, Nat.reduceEqDiff, Nat.reduceLT, Nat.reduceBEq, ↓reduceIte, Int.reduceLE, Int.reduceLT, Int.reduceToNat, Int.reduceNeg, reduceCtorEq, Int.reduceEq, SF0, SF1, SF2, DDb0, DBc0, DBc1, DCe0, DCe1]
      exact fin_val ⟨by rw [fills_out k _ _ _ _ (by omega)], rfl⟩
    · obtain ⟨q, hq⟩ := get_lt (l := k.Ps) (i := pa.toNat) (by omega)
      have h0 : (0 ≤ pa) = True := eq_true (by omega)
      simp (disch := omega) only [SX0, SX1, SX2, SX3, SX4, SX5, SX6, SX7, SX8, SU0, SY0, SY1, Nat.reduceAdd, Nat.reduceMul, Nat.reduceSub, Nat.reduceLeDiff, Nat.reduceEqDiff, Nat.reduceLT, Nat.reduceBEq, ↓reduceIte, Int.reduceLE, Int.reduceLT, Int.reduceToNat, Int.reduceNeg, reduceCtorEq, Int.reduceEq, SF0, SF1, SF2, DDb0, DBc0, DBc1, DCe0, DCe1, hq, h0]
      repeat' first | with_reducible refine fin_val ⟨?_, rfl⟩ | with_reducible refine br_dec (fun hb => ?_) (fun hb => ?_) | with_reducible refine br_ndec (fun hb => ?_) (fun hb => ?_) | with_reducible refine br_bool (fun hb => ?_) (fun hb => ?_) | with_reducible refine pk_dec (fun hb => ?_) (fun hb => ?_) | with_reducible refine pk_ndec (fun hb => ?_) (fun hb => ?_) | with_reducible refine awp_drawA T_tt mixed (by decide +kernel) (by kernel_rfl) (by kernel_rfl) ?_ | simp (disch := omega) only [SX0, SX1, SX2, SX3, SX4, SX5, SX6, SX7, SX8, SU0, SY0, SY1, Nat.reduceAdd, Nat.reduceMul, Nat.reduceSub, Nat.reduceLeDiff, Nat.reduceEqDiff, Nat.reduceLT, Nat.reduceBEq, ↓reduceIte, Int.reduceLE, Int.reduceLT, Int.reduceToNat, Int.reduceNeg, reduceCtorEq, Int.reduceEq, SF0, SF1, SF2, DDb0, DBc0, DBc1, DCe0, DCe1]
      all_goals rw [fills_in hq (by omega)]
      all_goals simp_all

end Go.Pc

/- Plans of the program: their size, how they fit, their parts. -/
namespace Go.Pc
open Go Go.Proofs

/-- The number of parts, if there is room for it. -/
def Plan.cnt (p : Plan) (room : Int) : Int := if p.wf = true ∧ (p.nodes : Int) ≤ room then p.nodes else -1
theorem Plan.cnt_bad {p : Plan} {room : Int} (h : ¬ p.good) : p.cnt room = -1 := by
  unfold Plan.cnt
  rw [if_neg]
  exact fun hh => h ((Plan.wf_iff p).1 hh.1).1
theorem Plan.cnt_small {p : Plan} {room : Int} (h : room < 1) : p.cnt room = -1 := by
  unfold Plan.cnt
  have := p.nodes_pos
  rw [if_neg (by omega)]
theorem Plan.cnt_leaf {p : Plan} {room : Int} (h : p.good) (hc : ¬ p.cut) (hr : 1 ≤ room) : p.cnt room = 1 := by
  have hk : p.ks = [] := by
    unfold Plan.good at h
    rw [if_neg hc] at h
    exact List.length_eq_zero_iff.1 h.1
  have hw : p.wf = true := (Plan.wf_iff p).2 ⟨h, by rw [hk]; simp⟩
  unfold Plan.cnt
  rw [Plan.nodes_leaf hw hc, if_pos ⟨hw, by omega⟩]; rfl
theorem Plan.cnt_le (p : Plan) (room : Int) : -1 ≤ p.cnt room ∧ (p.cnt room ≤ room ∨ p.cnt room = -1) := by
  unfold Plan.cnt; split <;> omega
theorem Plan.cnt_first {p a b : Plan} {room : Int} (hk : p.ks = [a, b]) (h : a.cnt (room - 1) < 0) : p.cnt room = -1 := by
  unfold Plan.cnt at *
  rw [if_neg]
  intro hh
  have := Plan.nodes_two hk
  have h2 : a.wf = true := ((Plan.wf_iff p).1 hh.1).2 a (by simp [hk])
  rw [if_pos ⟨h2, by omega⟩] at h
  omega
theorem Plan.cnt_second {p a b : Plan} {room : Int} (hk : p.ks = [a, b]) (h1 : ¬ a.cnt (room - 1) < 0) (h : b.cnt (room - 1 - a.cnt (room - 1)) < 0) : p.cnt room = -1 := by
  have ha : a.cnt (room - 1) = a.nodes := by
    unfold Plan.cnt at *
    split at h1
    · rename_i hh; rw [if_pos hh]
    · omega
  rw [ha] at h
  unfold Plan.cnt at h ⊢
  rw [if_neg]
  intro hh
  have := Plan.nodes_two hk
  have h2 : b.wf = true := ((Plan.wf_iff p).1 hh.1).2 b (by simp [hk])
  rw [if_pos ⟨h2, by omega⟩] at h
  omega
theorem Plan.cnt_both {p a b : Plan} {room : Int} (hg : p.good) (hk : p.ks = [a, b]) (h1 : ¬ a.cnt (room - 1) < 0) (h : ¬ b.cnt (room - 1 - a.cnt (room - 1)) < 0) : p.cnt room = 1 + a.cnt (room - 1) + b.cnt (room - 1 - a.cnt (room - 1)) := by
  unfold Plan.cnt at *
  by_cases ha : a.wf = true ∧ (a.nodes : Int) ≤ room - 1
  · rw [if_pos ha] at *
    by_cases hb : b.wf = true ∧ (b.nodes : Int) ≤ room - 1 - a.nodes
    · rw [if_pos hb] at *
      have := Plan.nodes_two hk
      rw [if_pos ⟨(Plan.wf_iff p).2 ⟨hg, by rw [hk]; simp [ha.1, hb.1]⟩, by omega⟩]
      omega
    · rw [if_neg hb] at h; omega
  · rw [if_neg ha] at h1; omega

theorem e_countParts : Enters Try.prog 122 := enters_of Try.func122 (by kernel_rfl) (by kernel_rfl)
set_option maxHeartbeats 4000000 in
theorem countParts_n : ∀ (n : Nat) (p : Plan) (room : Int), p.nodes ≤ n → (-1000 ≤ room ∧ room ≤ 1000) →
    ACalls Try.prog 122 [.agg p.cs, .val (.int .i64 room)] [] [] (fun r L => r = .val (.int .i64 (p.cnt room)) ∧ L = []) := by
  intro n
  induction n with
  | zero => intro p room h; have := p.nodes_pos; omega
  | succ n ih =>
  intro p room hn hr
  refine acalls_tm T_tt Try.func122 rfl e_countParts 80 rfl (W8 _ _ .any .any .any .any .any .any (W8 .any .any .any .any .any .any .any .any (W8 .any .any .any .any .any .any .any .any (W8 .any .any .any .any .any .any .any .any (W8 .any .any .any .any .any .any .any .any (W8 .any .any .any .any .any .any .any .any (W8 .any .any .any .any .any .any .any .any (W8 .any .any .any .any .any .any .any .any (W8 .any .any .any .any .any .any .any .any (W8 .any .any .any .any .any .any .any .any [.any, .any])))))))))) rfl (rv := [.tmp 4]) rfl (sx_sound (bl := []) T_tt _ _ _ ?_)
  simp (disch := omega) only [SX0, SX1, SX2, SX3, SX4, SX5, SX6, SX7, SX8, SU0, SY0, SY1, Nat.reduceAdd, Nat.reduceMul, Nat.reduceSub, Nat.reduceLeDiff, Nat.reduceEqDiff, Nat.reduceLT, Nat.reduceBEq, ↓reduceIte, Int.reduceLE, Int.reduceLT, Int.reduceToNat, Int.reduceNeg, reduceCtorEq, Int.reduceEq, SF0, SF1, SF2, DDb0, DBc0, DBc1, DCe0, DCe1]
  refine br_dec (fun h => ?_) (fun h => ?_)
  · simp (disch := omega) only [SX0, SX1, SX2, SX3, SX4, SX5, SX6, SX7, SX8, SU0, SY0, SY1, Nat.reduceAdd, Nat.reduceMul, Nat.reduceSub, Nat.reduceLeDiff, Nat.reduceEqDiff, Nat.reduceLT, Nat.reduceBEq, ↓reduceIte, Int.reduceLE, Int.reduceLT, Int.reduceToNat, Int.reduceNeg, reduceCtorEq, Int.reduceEq, SF0, SF1, SF2, DDb0, DBc0, DBc1, DCe0, DCe1]
    exact fin_val ⟨by rw [Plan.cnt_small h], rfl⟩
  · repeat' first | with_reducible refine fin_val ⟨?_, rfl⟩ | with_reducible refine br_dec (fun hb => ?_) (fun hb => ?_) | with_reducible refine br_ndec (fun hb => ?_) (fun hb => ?_) | with_reducible refine br_bool (fun hb => ?_) (fun hb => ?_) | with_reducible refine pk_dec (fun hb => ?_) (fun hb => ?_) | with_reducible refine pk_ndec (fun hb => ?_) (fun hb => ?_) | with_reducible refine awp_drawA T_tt mixed (by decide +kernel) (by kernel_rfl) (by kernel_rfl) ?_ | simp (disch := omega) only [SX0, SX1, SX2, SX3, SX4, SX5, SX6, SX7, SX8, SU0, SY0, SY1, Nat.reduceAdd, Nat.reduceMul, Nat.reduceSub, Nat.reduceLeDiff, Nat.reduceEqDiff, Nat.reduceLT, Nat.reduceBEq, ↓reduceIte, Int.reduceLE, Int.reduceLT, Int.reduceToNat, Int.reduceNeg, reduceCtorEq, Int.reduceEq, SF0, SF1, SF2, DDb0, DBc0, DBc1, DCe0, DCe1]
    all_goals first
      | (rw [Plan.cnt_leaf (room := room)] <;> first | omega | (simp_all [Plan.good, Plan.cut]; done))
      | (rw [Plan.cnt_bad]; first | (simp_all [Plan.good, Plan.cut]; done) | (simp_all [Plan.good, Plan.cut]; omega))
      | (have hg : p.good := by simp_all [Plan.good, Plan.cut]; omega
         have hc : p.cut := by simp_all [Plan.cut]
         obtain ⟨a, b, hk⟩ : ∃ a b, p.ks = [a, b] := by
           have : p.ks.length = 2 := by omega
           match hk : p.ks, this with
           | [a, b], _ => exact ⟨a, b, rfl⟩
         have hna : a.nodes < p.nodes := Plan.nodes_kid (by simp [hk])
         have hnb : b.nodes < p.nodes := Plan.nodes_kid (by simp [hk])
         have ha := a.cnt_le (room - 1)
         simp (disch := omega) only [SX0, SX1, SX2, SX3, SX4, SX5, SX6, SX7, SX8, SU0, SY0, SY1, Nat.reduceAdd, Nat.reduceMul, Nat.reduceSub, Nat.reduceLeDiff, Nat.reduceEqDiff, Nat.reduceLT, Nat.reduceBEq, ↓reduceIte, Int.reduceLE, Int.reduceLT, Int.reduceToNat, Int.reduceNeg, reduceCtorEq, Int.reduceEq, SF0, SF1, SF2, DDb0, DBc0, DBc1, DCe0, DCe1, hk]
         refine acall_one (ih a (room - 1) (by omega) (by omega)) (by simp [freeL, AV.free, Plan.free]) rfl ?_
         simp (disch := omega) only [SX0, SX1, SX2, SX3, SX4, SX5, SX6, SX7, SX8, SU0, SY0, SY1, Nat.reduceAdd, Nat.reduceMul, Nat.reduceSub, Nat.reduceLeDiff, Nat.reduceEqDiff, Nat.reduceLT, Nat.reduceBEq, ↓reduceIte, Int.reduceLE, Int.reduceLT, Int.reduceToNat, Int.reduceNeg, reduceCtorEq, Int.reduceEq, SF0, SF1, SF2, DDb0, DBc0, DBc1, DCe0, DCe1]
         refine br_dec (fun h1 => ?_) (fun h1 => ?_)
         · simp (disch := omega) only [SX0, SX1, SX2, SX3, SX4, SX5, SX6, SX7, SX8, SU0, SY0, SY1, Nat.reduceAdd, Nat.reduceMul, Nat.reduceSub, Nat.reduceLeDiff, Nat.reduceEqDiff, Nat.reduceLT, Nat.reduceBEq, ↓reduceIte, Int.reduceLE, Int.reduceLT, Int.reduceToNat, Int.reduceNeg, reduceCtorEq, Int.reduceEq, SF0, SF1, SF2, DDb0, DBc0, DBc1, DCe0, DCe1]
           exact fin_val ⟨by rw [Plan.cnt_first hk h1], rfl⟩
         · simp (disch := omega) only [SX0, SX1, SX2, SX3, SX4, SX5, SX6, SX7, SX8, SU0, SY0, SY1, Nat.reduceAdd, Nat.reduceMul, Nat.reduceSub, Nat.reduceLeDiff, Nat.reduceEqDiff, Nat.reduceLT, Nat.reduceBEq, ↓reduceIte, Int.reduceLE, Int.reduceLT, Int.reduceToNat, Int.reduceNeg, reduceCtorEq, Int.reduceEq, SF0, SF1, SF2, DDb0, DBc0, DBc1, DCe0, DCe1, hk]
           have hb := b.cnt_le (room - 1 - a.cnt (room - 1))
           refine acall_one (ih b (room - 1 - a.cnt (room - 1)) (by omega) (by omega)) (by simp [freeL, AV.free, Plan.free]) rfl ?_
           simp (disch := omega) only [SX0, SX1, SX2, SX3, SX4, SX5, SX6, SX7, SX8, SU0, SY0, SY1, Nat.reduceAdd, Nat.reduceMul, Nat.reduceSub, Nat.reduceLeDiff, Nat.reduceEqDiff, Nat.reduceLT, Nat.reduceBEq, ↓reduceIte, Int.reduceLE, Int.reduceLT, Int.reduceToNat, Int.reduceNeg, reduceCtorEq, Int.reduceEq, SF0, SF1, SF2, DDb0, DBc0, DBc1, DCe0, DCe1]
           refine br_dec (fun h2 => ?_) (fun h2 => ?_)
           · simp (disch := omega) only [SX0, SX1, SX2, SX3, SX4, SX5, SX6, SX7, SX8, SU0, SY0, SY1, Nat.reduceAdd, Nat.reduceMul, Nat.reduceSub, Nat.reduceLeDiff, Nat.reduceEqDiff, Nat.reduceLT, Nat.reduceBEq, ↓reduceIte, Int.reduceLE, Int.reduceLT, Int.reduceToNat, Int.reduceNeg, reduceCtorEq, Int.reduceEq, SF0, SF1, SF2, DDb0, DBc0, DBc1, DCe0, DCe1]
             exact fin_val ⟨by rw [Plan.cnt_second hk h1 h2], rfl⟩
           · simp (disch := omega) only [SX0, SX1, SX2, SX3, SX4, SX5, SX6, SX7, SX8, SU0, SY0, SY1, Nat.reduceAdd, Nat.reduceMul, Nat.reduceSub, Nat.reduceLeDiff, Nat.reduceEqDiff, Nat.reduceLT, Nat.reduceBEq, ↓reduceIte, Int.reduceLE, Int.reduceLT, Int.reduceToNat, Int.reduceNeg, reduceCtorEq, Int.reduceEq, SF0, SF1, SF2, DDb0, DBc0, DBc1, DCe0, DCe1]
             exact fin_val ⟨by rw [Plan.cnt_both hg hk h1 h2], rfl⟩)

theorem Plan.cnt_size (p : Plan) : p.cnt 255 = p.size := by
  unfold Plan.cnt Plan.size
  by_cases h : p.wf = true ∧ p.nodes ≤ 255
  · rw [if_pos h, if_pos ⟨h.1, by omega⟩]
  · rw [if_neg h, if_neg (fun hh => h ⟨hh.1, by omega⟩)]

theorem e_planSizeI : Enters Try.prog 63 := enters_of Try.func63 (by kernel_rfl) (by kernel_rfl)
theorem planSizeI_c (p : Plan) : ACalls Try.prog 63 [.agg p.cs] [] [] (fun r L => r = .val (.int .i64 p.size) ∧ L = []) := by
  refine acalls_tm T_tt Try.func63 rfl e_planSizeI 4 rfl [_, .any, .any, .any, .any] rfl (rv := [.tmp 2]) rfl (sx_sound (bl := []) T_tt _ _ _ ?_)
  simp (disch := omega) only [SX0, SX1, SX2, SX3, SX4, SX5, SX6, SX7, SX8, SU0, SY0, SY1, Nat.reduceAdd, Nat.reduceMul, Nat.reduceSub, Nat.reduceLeDiff, Nat.reduceEqDiff, Nat.reduceLT, Nat.reduceBEq, ↓reduceIte, Int.reduceLE, Int.reduceLT, Int.reduceToNat, Int.reduceNeg, reduceCtorEq, Int.reduceEq, SF0, SF1, SF2, DDb0, DBc0, DBc1, DCe0, DCe1]
  refine acall_one (countParts_n _ p 255 (Nat.le_refl _) (by omega)) (by simp [freeL, AV.free, Plan.free]) rfl ?_
  simp (disch := omega) only [SX0, SX1, SX2, SX3, SX4, SX5, SX6, SX7, SX8, SU0, SY0, SY1, Nat.reduceAdd, Nat.reduceMul, Nat.reduceSub, Nat.reduceLeDiff, Nat.reduceEqDiff, Nat.reduceLT, Nat.reduceBEq, ↓reduceIte, Int.reduceLE, Int.reduceLT, Int.reduceToNat, Int.reduceNeg, reduceCtorEq, Int.reduceEq, SF0, SF1, SF2, DDb0, DBc0, DBc1, DCe0, DCe1]
  exact fin_val ⟨by rw [Plan.cnt_size], rfl⟩

theorem Plan.fits_split {k : Work} {p x y : Plan} {b : Box} (hc : p.cut) (hk : p.ks = [x, y]) (h1 : 1 ≤ p.at_) (h2 : p.op = 2 → p.at_ ≤ b.W - 1) (h3 : p.op ≠ 2 → p.at_ ≤ b.H - 1) :
    p.fits k b.W b.H = (x.fits k (p.split b).1.W (p.split b).1.H && y.fits k (p.split b).2.W (p.split b).2.H) := by
  rcases hc with h | h
  · rw [Plan.fits_down k p x y _ _ h hk]
    simp only [Plan.split, if_pos h, h1, h2 h, decide_true, Bool.true_and]
  · have hn : ¬ p.op = 2 := by omega
    rw [Plan.fits_across k p x y _ _ h hk]
    simp only [Plan.split, if_neg hn, h1, h3 hn, decide_true, Bool.true_and]

theorem e_planFits : Enters Try.prog 69 := enters_of Try.func69 (by kernel_rfl) (by kernel_rfl)
set_option maxHeartbeats 4000000 in
theorem planFits_n (k : Work) : ∀ (n : Nat) (p : Plan) (b : Box), p.nodes ≤ n → p.wf = true → b.sane →
    ACalls Try.prog 69 [.agg k.cs, .agg p.cs, .agg b.cs] [] [] (fun r L => r = .val (.bool (p.fits k b.W b.H)) ∧ L = []) := by
  intro n
  induction n with
  | zero => intro p b h; have := p.nodes_pos; omega
  | succ n ih =>
  intro p b hn hw hb
  refine acalls_tm T_tt Try.func69 rfl e_planFits 66 rfl (W8 _ _ _ .any .any .any .any .any (W8 .any .any .any .any .any .any .any .any (W8 .any .any .any .any .any .any .any .any (W8 .any .any .any .any .any .any .any .any (W8 .any .any .any .any .any .any .any .any (W8 .any .any .any .any .any .any .any .any (W8 .any .any .any .any .any .any .any .any (W8 .any .any .any .any .any .any .any .any [.any, .any, .any, .any, .any])))))))) rfl (rv := [.tmp 6]) rfl (sx_sound (bl := []) T_tt _ _ _ ?_)
  simp (disch := omega) only [SX0, SX1, SX2, SX3, SX4, SX5, SX6, SX7, SX8, SU0, SY0, SY1, Nat.reduceAdd, Nat.reduceMul, Nat.reduceSub, Nat.reduceLeDiff, Nat.reduceEqDiff, Nat.reduceLT, Nat.reduceBEq, ↓reduceIte, Int.reduceLE, Int.reduceLT, Int.reduceToNat, Int.reduceNeg, reduceCtorEq, Int.reduceEq, SF0, SF1, SF2, DDb0, DBc0, DBc1, DCe0, DCe1]
  refine br_dec (fun h => ?_) (fun h => ?_)
  · simp (disch := omega) only [SX0, SX1, SX2, SX3, SX4, SX5, SX6, SX7, SX8, SU0, SY0, SY1, Nat.reduceAdd, Nat.reduceMul, Nat.reduceSub, Nat.reduceLeDiff, Nat.reduceEqDiff, Nat.reduceLT, Nat.reduceBEq, ↓reduceIte, Int.reduceLE, Int.reduceLT, Int.reduceToNat, Int.reduceNeg, reduceCtorEq, Int.reduceEq, SF0, SF1, SF2, DDb0, DBc0, DBc1, DCe0, DCe1]
    refine acall_one (paneFillsI_c k p.pa p.tu b.W b.H) (by simp [freeL, AV.free, Work.free]) rfl ?_
    simp (disch := omega) only [SX0, SX1, SX2, SX3, SX4, SX5, SX6, SX7, SX8, SU0, SY0, SY1, Nat.reduceAdd, Nat.reduceMul, Nat.reduceSub, Nat.reduceLeDiff, Nat.reduceEqDiff, Nat.reduceLT, Nat.reduceBEq, ↓reduceIte, Int.reduceLE, Int.reduceLT, Int.reduceToNat, Int.reduceNeg, reduceCtorEq, Int.reduceEq, SF0, SF1, SF2, DDb0, DBc0, DBc1, DCe0, DCe1]
    exact fin_val ⟨by rw [Plan.fits_pane k p _ _ h], rfl⟩
  · repeat' first | with_reducible refine fin_val ⟨?_, rfl⟩ | with_reducible refine br_dec (fun hb => ?_) (fun hb => ?_) | with_reducible refine br_ndec (fun hb => ?_) (fun hb => ?_) | with_reducible refine br_bool (fun hb => ?_) (fun hb => ?_) | with_reducible refine pk_dec (fun hb => ?_) (fun hb => ?_) | with_reducible refine pk_ndec (fun hb => ?_) (fun hb => ?_) | with_reducible refine awp_drawA T_tt mixed (by decide +kernel) (by kernel_rfl) (by kernel_rfl) ?_ | simp (disch := omega) only [SX0, SX1, SX2, SX3, SX4, SX5, SX6, SX7, SX8, SU0, SY0, SY1, Nat.reduceAdd, Nat.reduceMul, Nat.reduceSub, Nat.reduceLeDiff, Nat.reduceEqDiff, Nat.reduceLT, Nat.reduceBEq, ↓reduceIte, Int.reduceLE, Int.reduceLT, Int.reduceToNat, Int.reduceNeg, reduceCtorEq, Int.reduceEq, SF0, SF1, SF2, DDb0, DBc0, DBc1, DCe0, DCe1]
    all_goals first
      | (have h2 : p.op = 2 := by assumption
         have hc : p.cut := .inl h2
         obtain ⟨x, y, hk, hx, hy, nx, ny⟩ := Plan.two hw hc
         rw [Plan.fits_down k p x y _ _ h2 hk]
         have e : (decide (1 ≤ p.at_) && decide (p.at_ ≤ b.W - 1)) = false := by simp; omega
         rw [e]; rfl)
      | (have h3 : p.op = 3 := by assumption
         have hc : p.cut := .inr h3
         obtain ⟨x, y, hk, hx, hy, nx, ny⟩ := Plan.two hw hc
         rw [Plan.fits_across k p x y _ _ h3 hk]
         have e : (decide (1 ≤ p.at_) && decide (p.at_ ≤ b.H - 1)) = false := by simp; omega
         rw [e]; rfl)
      | (rw [Plan.fits_else k p _ _ (by assumption) (by assumption) (by assumption)]; done)
      | (have hc : p.cut := by unfold Plan.cut; omega
         obtain ⟨x, y, hk, hx, hy, nx, ny⟩ := Plan.two hw hc
         obtain ⟨s1, s2⟩ := Plan.split_sane2 (p := p) (b := b) (by assumption) (by omega) (by omega) (by omega)
         have hbb : b.sane := by assumption
         have hbb' := hbb
         unfold Box.sane at hbb'
         refine acall_one (splitBoxI_c p b (by omega)) (by simp [freeL, AV.free, Plan.free, Box.free]) (by simp [freeL, AV.free, Box.free]) ?_
         simp (disch := omega) only [SX0, SX1, SX2, SX3, SX4, SX5, SX6, SX7, SX8, SU0, SY0, SY1, Nat.reduceAdd, Nat.reduceMul, Nat.reduceSub, Nat.reduceLeDiff, Nat.reduceEqDiff, Nat.reduceLT, Nat.reduceBEq, ↓reduceIte, Int.reduceLE, Int.reduceLT, Int.reduceToNat, Int.reduceNeg, reduceCtorEq, Int.reduceEq, SF0, SF1, SF2, DDb0, DBc0, DBc1, DCe0, DCe1]
         refine awp_drawA T_tt mixed (by decide +kernel) (by kernel_rfl) (by kernel_rfl) ?_
         simp (disch := omega) only [SX0, SX1, SX2, SX3, SX4, SX5, SX6, SX7, SX8, SU0, SY0, SY1, Nat.reduceAdd, Nat.reduceMul, Nat.reduceSub, Nat.reduceLeDiff, Nat.reduceEqDiff, Nat.reduceLT, Nat.reduceBEq, ↓reduceIte, Int.reduceLE, Int.reduceLT, Int.reduceToNat, Int.reduceNeg, reduceCtorEq, Int.reduceEq, SF0, SF1, SF2, DDb0, DBc0, DBc1, DCe0, DCe1, hk]
         refine qc_one (ih x (p.split b).1 (by omega) hx s1) (by simp [freeL, AV.free, Plan.free, Box.free, Work.free]) ?_
         simp (disch := omega) only [SX0, SX1, SX2, SX3, SX4, SX5, SX6, SX7, SX8, SU0, SY0, SY1, Nat.reduceAdd, Nat.reduceMul, Nat.reduceSub, Nat.reduceLeDiff, Nat.reduceEqDiff, Nat.reduceLT, Nat.reduceBEq, ↓reduceIte, Int.reduceLE, Int.reduceLT, Int.reduceToNat, Int.reduceNeg, reduceCtorEq, Int.reduceEq, SF0, SF1, SF2, DDb0, DBc0, DBc1, DCe0, DCe1, hk]
         refine br_bool (fun f1 => ?_) (fun f1 => ?_)
         · simp (disch := omega) only [SX0, SX1, SX2, SX3, SX4, SX5, SX6, SX7, SX8, SU0, SY0, SY1, Nat.reduceAdd, Nat.reduceMul, Nat.reduceSub, Nat.reduceLeDiff, Nat.reduceEqDiff, Nat.reduceLT, Nat.reduceBEq, ↓reduceIte, Int.reduceLE, Int.reduceLT, Int.reduceToNat, Int.reduceNeg, reduceCtorEq, Int.reduceEq, SF0, SF1, SF2, DDb0, DBc0, DBc1, DCe0, DCe1, hk]
           refine qc_one (ih y (p.split b).2 (by omega) hy s2) (by simp [freeL, AV.free, Plan.free, Box.free, Work.free]) ?_
           simp (disch := omega) only [SX0, SX1, SX2, SX3, SX4, SX5, SX6, SX7, SX8, SU0, SY0, SY1, Nat.reduceAdd, Nat.reduceMul, Nat.reduceSub, Nat.reduceLeDiff, Nat.reduceEqDiff, Nat.reduceLT, Nat.reduceBEq, ↓reduceIte, Int.reduceLE, Int.reduceLT, Int.reduceToNat, Int.reduceNeg, reduceCtorEq, Int.reduceEq, SF0, SF1, SF2, DDb0, DBc0, DBc1, DCe0, DCe1]
           exact fin_val ⟨by rw [Plan.fits_split hc hk (by omega) (by omega) (by omega), f1]; rfl, rfl⟩
         · simp (disch := omega) only [SX0, SX1, SX2, SX3, SX4, SX5, SX6, SX7, SX8, SU0, SY0, SY1, Nat.reduceAdd, Nat.reduceMul, Nat.reduceSub, Nat.reduceLeDiff, Nat.reduceEqDiff, Nat.reduceLT, Nat.reduceBEq, ↓reduceIte, Int.reduceLE, Int.reduceLT, Int.reduceToNat, Int.reduceNeg, reduceCtorEq, Int.reduceEq, SF0, SF1, SF2, DDb0, DBc0, DBc1, DCe0, DCe1]
           exact fin_val ⟨by rw [Plan.fits_split hc hk (by omega) (by omega) (by omega), f1]; rfl, rfl⟩)

end Go.Pc

/- Valid plans; the parts of a plan. -/
namespace Go.Pc
open Go Go.Proofs

def Work.sheet (k : Work) : Box := ⟨0, 0, k.W, k.H⟩
/-- A valid plan. -/
def Plan.valid (k : Work) (p : Plan) : Prop := k.ok ∧ (p.wf = true ∧ p.nodes ≤ 255) ∧ p.fits k k.W k.H = true
instance (k : Work) (p : Plan) : Decidable (p.valid k) := inferInstanceAs (Decidable (_ ∧ _))
theorem Work.sheet_sane {k : Work} (h : k.ok) : k.sheet.sane := by
  unfold Work.ok at h
  simp only [Work.sheet, Box.sane]
  omega

theorem e_validPlanS : Enters Try.prog 113 := enters_of Try.func113 (by kernel_rfl) (by kernel_rfl)
theorem validPlanS_c (k : Work) (p : Plan) (hk : k.Ps.length < 2 ^ 40) : ACalls Try.prog 113 [.agg k.cs, .agg p.cs] [] [] (fun r L => r = .val (.bool (decide (p.valid k))) ∧ L = []) := by
  refine acalls_tm T_tt Try.func113 rfl e_validPlanS 19 rfl (W8 _ _ .any .any .any .any .any .any (W8 .any .any .any .any .any .any .any .any [.any, .any, .any, .any, .any])) rfl (rv := [.tmp 4]) rfl (sx_sound (bl := []) T_tt _ _ _ ?_)
  simp (disch := omega) only [SX0, SX1, SX2, SX3, SX4, SX5, SX6, SX7, SX8, SU0, SY0, SY1, Nat.reduceAdd, Nat.reduceMul, Nat.reduceSub, Nat.reduceLeDiff, Nat.reduceEqDiff, Nat.reduceLT, Nat.reduceBEq, ↓reduceIte, Int.reduceLE, Int.reduceLT, Int.reduceToNat, Int.reduceNeg, reduceCtorEq, Int.reduceEq, SF0, SF1, SF2, DDb0, DBc0, DBc1, DCe0, DCe1]
  refine acall_one (validWorkS_c k hk) rfl rfl ?_
  simp (disch := omega) only [SX0, SX1, SX2, SX3, SX4, SX5, SX6, SX7, SX8, SU0, SY0, SY1, Nat.reduceAdd, Nat.reduceMul, Nat.reduceSub, Nat.reduceLeDiff, Nat.reduceEqDiff, Nat.reduceLT, Nat.reduceBEq, ↓reduceIte, Int.reduceLE, Int.reduceLT, Int.reduceToNat, Int.reduceNeg, reduceCtorEq, Int.reduceEq, SF0, SF1, SF2, DDb0, DBc0, DBc1, DCe0, DCe1]
  refine br_dec (fun h1 => ?_) (fun h1 => ?_)
  · simp (disch := omega) only [SX0, SX1, SX2, SX3, SX4, SX5, SX6, SX7, SX8, SU0, SY0, SY1, Nat.reduceAdd, Nat.reduceMul, Nat.reduceSub, Nat.reduceLeDiff, Nat.reduceEqDiff, Nat.reduceLT, Nat.reduceBEq, ↓reduceIte, Int.reduceLE, Int.reduceLT, Int.reduceToNat, Int.reduceNeg, reduceCtorEq, Int.reduceEq, SF0, SF1, SF2, DDb0, DBc0, DBc1, DCe0, DCe1]
    refine acall_one (planSizeS_c p) (by simp [freeL, AV.free, Plan.free]) rfl ?_
    simp (disch := omega) only [SX0, SX1, SX2, SX3, SX4, SX5, SX6, SX7, SX8, SU0, SY0, SY1, Nat.reduceAdd, Nat.reduceMul, Nat.reduceSub, Nat.reduceLeDiff, Nat.reduceEqDiff, Nat.reduceLT, Nat.reduceBEq, ↓reduceIte, Int.reduceLE, Int.reduceLT, Int.reduceToNat, Int.reduceNeg, reduceCtorEq, Int.reduceEq, SF0, SF1, SF2, DDb0, DBc0, DBc1, DCe0, DCe1]
    refine br_dec (fun h2 => ?_) (fun h2 => ?_)
    · have h3 := (Plan.size_pos (p := p) (by omega)).1
      have h4 := h1
      unfold Work.ok at h4
      simp (disch := omega) only [SX0, SX1, SX2, SX3, SX4, SX5, SX6, SX7, SX8, SU0, SY0, SY1, Nat.reduceAdd, Nat.reduceMul, Nat.reduceSub, Nat.reduceLeDiff, Nat.reduceEqDiff, Nat.reduceLT, Nat.reduceBEq, ↓reduceIte, Int.reduceLE, Int.reduceLT, Int.reduceToNat, Int.reduceNeg, reduceCtorEq, Int.reduceEq, SF0, SF1, SF2, DDb0, DBc0, DBc1, DCe0, DCe1]
      refine acall_one (fitsS_c k hk p k.W k.H h3.1 (by omega) (by omega)) (by simp [freeL, AV.free, Plan.free, Work.free]) rfl ?_
      simp (disch := omega) only [SX0, SX1, SX2, SX3, SX4, SX5, SX6, SX7, SX8, SU0, SY0, SY1, Nat.reduceAdd, Nat.reduceMul, Nat.reduceSub, Nat.reduceLeDiff, Nat.reduceEqDiff, Nat.reduceLT, Nat.reduceBEq, ↓reduceIte, Int.reduceLE, Int.reduceLT, Int.reduceToNat, Int.reduceNeg, reduceCtorEq, Int.reduceEq, SF0, SF1, SF2, DDb0, DBc0, DBc1, DCe0, DCe1]
      refine fin_val ⟨?_, rfl⟩
      simp only [Plan.valid, h1, h3, true_and, and_self]
      cases p.fits k k.W k.H <;> rfl
    · simp (disch := omega) only [SX0, SX1, SX2, SX3, SX4, SX5, SX6, SX7, SX8, SU0, SY0, SY1, Nat.reduceAdd, Nat.reduceMul, Nat.reduceSub, Nat.reduceLeDiff, Nat.reduceEqDiff, Nat.reduceLT, Nat.reduceBEq, ↓reduceIte, Int.reduceLE, Int.reduceLT, Int.reduceToNat, Int.reduceNeg, reduceCtorEq, Int.reduceEq, SF0, SF1, SF2, DDb0, DBc0, DBc1, DCe0, DCe1]
      exact fin_val ⟨vF fun hh => by
        have := hh.2.1
        have h5 : p.size = p.nodes := by unfold Plan.size; rw [if_pos this]
        have := p.nodes_pos
        omega, rfl⟩
  · simp (disch := omega) only [SX0, SX1, SX2, SX3, SX4, SX5, SX6, SX7, SX8, SU0, SY0, SY1, Nat.reduceAdd, Nat.reduceMul, Nat.reduceSub, Nat.reduceLeDiff, Nat.reduceEqDiff, Nat.reduceLT, Nat.reduceBEq, ↓reduceIte, Int.reduceLE, Int.reduceLT, Int.reduceToNat, Int.reduceNeg, reduceCtorEq, Int.reduceEq, SF0, SF1, SF2, DDb0, DBc0, DBc1, DCe0, DCe1]
    exact fin_val ⟨vF fun hh => h1 hh.1, rfl⟩

theorem e_sheetOf : Enters Try.prog 70 := enters_of Try.func70 (by kernel_rfl) (by kernel_rfl)
theorem sheetOf_c (k : Work) : ACalls Try.prog 70 [.agg k.cs] [] [] (fun r L => r = .agg k.sheet.cs ∧ L = []) := by
  refine acalls_tm T_tt Try.func70 rfl e_sheetOf 7 rfl (W8 _ .any .any .any .any .any .any .any []) rfl (rv := [.cell 2 77]) rfl (sx_sound (bl := []) T_tt _ _ _ ?_)
  simp (disch := omega) only [SX0, SX1, SX2, SX3, SX4, SX5, SX6, SX7, SX8, SU0, SY0, SY1, Nat.reduceAdd, Nat.reduceMul, Nat.reduceSub, Nat.reduceLeDiff, Nat.reduceEqDiff, Nat.reduceLT, Nat.reduceBEq, ↓reduceIte, Int.reduceLE, Int.reduceLT, Int.reduceToNat, Int.reduceNeg, reduceCtorEq, Int.reduceEq, SF0, SF1, SF2, DDb0, DBc0, DBc1, DCe0, DCe1]
  exact fin_free rfl ⟨rfl, rfl⟩

theorem e_validPlanI : Enters Try.prog 17 := enters_of Try.func17 (by kernel_rfl) (by kernel_rfl)
theorem validPlanI_c (k : Work) (p : Plan) (hk : k.Ps.length < 2 ^ 40) : ACalls Try.prog 17 [.agg k.cs, .agg p.cs] [] [] (fun r L => r = .val (.bool (decide (p.valid k))) ∧ L = []) := by
  refine acalls_tm T_tt Try.func17 rfl e_validPlanI 17 rfl (W8 _ _ .any .any .any .any .any .any (W8 .any .any .any .any .any .any .any .any [.any, .any, .any])) rfl (rv := [.tmp 4]) rfl (sx_sound (bl := []) T_tt _ _ _ ?_)
  simp (disch := omega) only [SX0, SX1, SX2, SX3, SX4, SX5, SX6, SX7, SX8, SU0, SY0, SY1, Nat.reduceAdd, Nat.reduceMul, Nat.reduceSub, Nat.reduceLeDiff, Nat.reduceEqDiff, Nat.reduceLT, Nat.reduceBEq, ↓reduceIte, Int.reduceLE, Int.reduceLT, Int.reduceToNat, Int.reduceNeg, reduceCtorEq, Int.reduceEq, SF0, SF1, SF2, DDb0, DBc0, DBc1, DCe0, DCe1]
  refine awp_drawA T_tt mixed (by decide +kernel) (by kernel_rfl) (by kernel_rfl) ?_
  simp (disch := omega) only [SX0, SX1, SX2, SX3, SX4, SX5, SX6, SX7, SX8, SU0, SY0, SY1, Nat.reduceAdd, Nat.reduceMul, Nat.reduceSub, Nat.reduceLeDiff, Nat.reduceEqDiff, Nat.reduceLT, Nat.reduceBEq, ↓reduceIte, Int.reduceLE, Int.reduceLT, Int.reduceToNat, Int.reduceNeg, reduceCtorEq, Int.reduceEq, SF0, SF1, SF2, DDb0, DBc0, DBc1, DCe0, DCe1]
  refine qc_one (validWorkI_c k hk) rfl ?_
  simp (disch := omega) only [SX0, SX1, SX2, SX3, SX4, SX5, SX6, SX7, SX8, SU0, SY0, SY1, Nat.reduceAdd, Nat.reduceMul, Nat.reduceSub, Nat.reduceLeDiff, Nat.reduceEqDiff, Nat.reduceLT, Nat.reduceBEq, ↓reduceIte, Int.reduceLE, Int.reduceLT, Int.reduceToNat, Int.reduceNeg, reduceCtorEq, Int.reduceEq, SF0, SF1, SF2, DDb0, DBc0, DBc1, DCe0, DCe1]
  refine br_dec (fun h1 => ?_) (fun h1 => ?_)
  · simp (disch := omega) only [SX0, SX1, SX2, SX3, SX4, SX5, SX6, SX7, SX8, SU0, SY0, SY1, Nat.reduceAdd, Nat.reduceMul, Nat.reduceSub, Nat.reduceLeDiff, Nat.reduceEqDiff, Nat.reduceLT, Nat.reduceBEq, ↓reduceIte, Int.reduceLE, Int.reduceLT, Int.reduceToNat, Int.reduceNeg, reduceCtorEq, Int.reduceEq, SF0, SF1, SF2, DDb0, DBc0, DBc1, DCe0, DCe1]
    refine qc_one (planSizeI_c p) (by simp [freeL, AV.free, Plan.free]) ?_
    simp (disch := omega) only [SX0, SX1, SX2, SX3, SX4, SX5, SX6, SX7, SX8, SU0, SY0, SY1, Nat.reduceAdd, Nat.reduceMul, Nat.reduceSub, Nat.reduceLeDiff, Nat.reduceEqDiff, Nat.reduceLT, Nat.reduceBEq, ↓reduceIte, Int.reduceLE, Int.reduceLT, Int.reduceToNat, Int.reduceNeg, reduceCtorEq, Int.reduceEq, SF0, SF1, SF2, DDb0, DBc0, DBc1, DCe0, DCe1]
    refine br_dec (fun h2 => ?_) (fun h2 => ?_)
    · have h3 := (Plan.size_pos (p := p) (by omega)).1
      simp (disch := omega) only [SX0, SX1, SX2, SX3, SX4, SX5, SX6, SX7, SX8, SU0, SY0, SY1, Nat.reduceAdd, Nat.reduceMul, Nat.reduceSub, Nat.reduceLeDiff, Nat.reduceEqDiff, Nat.reduceLT, Nat.reduceBEq, ↓reduceIte, Int.reduceLE, Int.reduceLT, Int.reduceToNat, Int.reduceNeg, reduceCtorEq, Int.reduceEq, SF0, SF1, SF2, DDb0, DBc0, DBc1, DCe0, DCe1]
      refine qc_one (sheetOf_c k) rfl ?_
      simp (disch := omega) only [SX0, SX1, SX2, SX3, SX4, SX5, SX6, SX7, SX8, SU0, SY0, SY1, Nat.reduceAdd, Nat.reduceMul, Nat.reduceSub, Nat.reduceLeDiff, Nat.reduceEqDiff, Nat.reduceLT, Nat.reduceBEq, ↓reduceIte, Int.reduceLE, Int.reduceLT, Int.reduceToNat, Int.reduceNeg, reduceCtorEq, Int.reduceEq, SF0, SF1, SF2, DDb0, DBc0, DBc1, DCe0, DCe1]
      refine qc_one (planFits_n k _ p k.sheet (Nat.le_refl _) h3.1 (Work.sheet_sane h1)) (by simp [freeL, AV.free, Plan.free, Work.free, Box.free]) ?_
      simp (disch := omega) only [SX0, SX1, SX2, SX3, SX4, SX5, SX6, SX7, SX8, SU0, SY0, SY1, Nat.reduceAdd, Nat.reduceMul, Nat.reduceSub, Nat.reduceLeDiff, Nat.reduceEqDiff, Nat.reduceLT, Nat.reduceBEq, ↓reduceIte, Int.reduceLE, Int.reduceLT, Int.reduceToNat, Int.reduceNeg, reduceCtorEq, Int.reduceEq, SF0, SF1, SF2, DDb0, DBc0, DBc1, DCe0, DCe1]
      refine fin_val ⟨?_, rfl⟩
      simp only [Plan.valid, h1, h3, true_and, and_self]
      show AV.val (.bool (p.fits k k.W k.H)) = _
      cases p.fits k k.W k.H <;> rfl
    · simp (disch := omega) only [SX0, SX1, SX2, SX3, SX4, SX5, SX6, SX7, SX8, SU0, SY0, SY1, Nat.reduceAdd, Nat.reduceMul, Nat.reduceSub, Nat.reduceLeDiff, Nat.reduceEqDiff, Nat.reduceLT, Nat.reduceBEq, ↓reduceIte, Int.reduceLE, Int.reduceLT, Int.reduceToNat, Int.reduceNeg, reduceCtorEq, Int.reduceEq, SF0, SF1, SF2, DDb0, DBc0, DBc1, DCe0, DCe1]
      exact fin_val ⟨vF fun hh => by
        have := hh.2.1
        have h5 : p.size = p.nodes := by unfold Plan.size; rw [if_pos this]
        have := p.nodes_pos
        omega, rfl⟩
  · simp (disch := omega) only [SX0, SX1, SX2, SX3, SX4, SX5, SX6, SX7, SX8, SU0, SY0, SY1, Nat.reduceAdd, Nat.reduceMul, Nat.reduceSub, Nat.reduceLeDiff, Nat.reduceEqDiff, Nat.reduceLT, Nat.reduceBEq, ↓reduceIte, Int.reduceLE, Int.reduceLT, Int.reduceToNat, Int.reduceNeg, reduceCtorEq, Int.reduceEq, SF0, SF1, SF2, DDb0, DBc0, DBc1, DCe0, DCe1]
    exact fin_val ⟨vF fun hh => h1 hh.1, rfl⟩

/-- A part and its box, as a row of cells. -/
def partRow (q : Plan × Box) : List AV := q.1.cs ++ q.2.cs
theorem partRow_len (q : Plan × Box) : (partRow q).length = 9 := by simp [partRow, Plan.len, Box.len]

theorem part_len (p : Plan) (a b c d : AV) : (p.cs ++ [a, b, c, d]).length = 9 := by simp [Plan.len]
theorem part_take (p : Plan) (a b c d : AV) : (p.cs ++ [a, b, c, d]).take 5 = p.cs := by rw [List.take_append_of_le_length (by simp [Plan.len]), Plan.take]
theorem part_drop (p : Plan) (a b c d : AV) : (p.cs ++ [a, b, c, d]).drop 9 = [] := by apply List.drop_eq_nil_of_le; simp [Plan.len]
theorem part_row (p : Plan) (b : Box) : p.cs ++ b.cs = partRow (p, b) := rfl
theorem partRow_one (q : Plan × Box) : (partRow q).all AV.one = true := by simp [partRow, Plan.one, Box.one, -List.all_eq_true]
theorem partRow_pure (q : Plan × Box) : (partRow q).all AV.pure = true := by simp [partRow, Plan.pure, Box.pure, -List.all_eq_true]
theorem partRow_drop (q : Plan × Box) : (partRow q).drop 5 = q.2.cs := by rw [partRow, List.drop_append_of_le_length (by simp [Plan.len]), List.drop_of_length_le (by simp [Plan.len])]; rfl
theorem partRow_take (q : Plan × Box) : (partRow q).take 9 = partRow q := List.take_of_length_le (by rw [partRow_len]; omega)
theorem DCe2 : type_of% @part_len ∧ type_of% @part_take ∧ type_of% @part_drop ∧ type_of% @part_row ∧ type_of% @partRow_len ∧ type_of% @partRow_one ∧ type_of% @partRow_pure ∧ type_of% @partRow_take := ⟨@part_len, @part_take, @part_drop, @part_row, @partRow_len, @partRow_one, @partRow_pure, @partRow_take⟩

theorem e_addParts : Enters Try.prog 149 := enters_of Try.func149 (by kernel_rfl) (by kernel_rfl)
set_option maxHeartbeats 4000000 in
theorem addParts_n (k : Work) : ∀ (n : Nat) (p : Plan) (b : Box) (es : List (List AV)), p.nodes ≤ n → p.wf = true → b.sane → p.fits k b.W b.H = true → (∀ e ∈ es, e.length = 9) → es.length + p.nodes ≤ 1000 →
    ACalls Try.prog 149 [.os 0 9 0 es.length, .agg p.cs, .agg b.cs] [.vec 9 es] [] (fun r L => r = .os 0 9 0 (es.length + p.nodes) ∧ L = [.vec 9 (es ++ (p.parts b).map partRow)]) := by
  intro n
  induction n with
  | zero => intro p b es h; have := p.nodes_pos; omega
  | succ n ih =>
  intro p b es hn hw hb hf hes hel
  refine acalls_tm T_tt Try.func149 rfl e_addParts 35 rfl (W8 _ _ _ .any .any .any .any .any (W8 .any .any .any .any .any .any .any .any (W8 .any .any .any .any .any .any .any .any (W8 .any .any .any .any .any .any .any .any [.any, .any, .any, .any, .any, .any])))) rfl (rv := [.tmp 6]) rfl (sx_sound (bl := []) T_tt _ _ _ ?_)
  simp (disch := omega) only [SX0, SX1, SX2, SX3, SX4, SX5, SX6, SX7, SX8, SU0, SY0, SY1, Nat.reduceAdd, Nat.reduceMul, Nat.reduceSub, Nat.reduceLeDiff, Nat.reduceEqDiff, Nat.reduceLT, Nat.reduceBEq, ↓reduceIte, Int.reduceLE, Int.reduceLT, Int.reduceToNat, Int.reduceNeg, reduceCtorEq, Int.reduceEq, SF0, SF1, SF2, DDb0, DBc0, DBc1, DCe0, DCe1, DCe2]
  refine req (by omega) ?_
  simp (disch := omega) only [SX0, SX1, SX2, SX3, SX4, SX5, SX6, SX7, SX8, SU0, SY0, SY1, Nat.reduceAdd, Nat.reduceMul, Nat.reduceSub, Nat.reduceLeDiff, Nat.reduceEqDiff, Nat.reduceLT, Nat.reduceBEq, ↓reduceIte, Int.reduceLE, Int.reduceLT, Int.reduceToNat, Int.reduceNeg, reduceCtorEq, Int.reduceEq, SF0, SF1, SF2, DDb0, DBc0, DBc1, DCe0, DCe1, DCe2]
  refine acall_one (isCutI_c p) (by simp [freeL, AV.free, Plan.free]) rfl ?_
  simp (disch := omega) only [SX0, SX1, SX2, SX3, SX4, SX5, SX6, SX7, SX8, SU0, SY0, SY1, Nat.reduceAdd, Nat.reduceMul, Nat.reduceSub, Nat.reduceLeDiff, Nat.reduceEqDiff, Nat.reduceLT, Nat.reduceBEq, ↓reduceIte, Int.reduceLE, Int.reduceLT, Int.reduceToNat, Int.reduceNeg, reduceCtorEq, Int.reduceEq, SF0, SF1, SF2, DDb0, DBc0, DBc1, DCe0, DCe1, DCe2]
  refine br_dec (fun hc => ?_) (fun hc => ?_)
  · simp (disch := omega) only [SX0, SX1, SX2, SX3, SX4, SX5, SX6, SX7, SX8, SU0, SY0, SY1, Nat.reduceAdd, Nat.reduceMul, Nat.reduceSub, Nat.reduceLeDiff, Nat.reduceEqDiff, Nat.reduceLT, Nat.reduceBEq, ↓reduceIte, Int.reduceLE, Int.reduceLT, Int.reduceToNat, Int.reduceNeg, reduceCtorEq, Int.reduceEq, SF0, SF1, SF2, DDb0, DBc0, DBc1, DCe0, DCe1, DCe2]
    obtain ⟨x, y, hk, hx, hy, nx, ny⟩ := Plan.two hw hc
    obtain ⟨f1, f2, _⟩ := Plan.fits_cut hc hk hf
    obtain ⟨s1, s2, _⟩ := Plan.split_sane hc hk hb hf
    have hat := Plan.fits_cut hc hk hf
    have hbb := hb
    unfold Box.sane at hbb
    have hop : p.op = 2 ∨ p.op ≠ 2 := by omega
    have hnn := Plan.nodes_two hk
    refine acall_one (splitBoxI_c p b (by omega)) (by simp [freeL, AV.free, Plan.free, Box.free]) (by simp [freeL, AV.free, Box.free]) ?_
    simp (disch := omega) only [SX0, SX1, SX2, SX3, SX4, SX5, SX6, SX7, SX8, SU0, SY0, SY1, Nat.reduceAdd, Nat.reduceMul, Nat.reduceSub, Nat.reduceLeDiff, Nat.reduceEqDiff, Nat.reduceLT, Nat.reduceBEq, ↓reduceIte, Int.reduceLE, Int.reduceLT, Int.reduceToNat, Int.reduceNeg, reduceCtorEq, Int.reduceEq, SF0, SF1, SF2, DDb0, DBc0, DBc1, DCe0, DCe1, DCe2, hk]
    refine awp_float (bl := []) T_tt mixed [1, 2, 3, 4] [1, 2, 3, 4, 5] [(0, []), (6, [(1, .f 24), (2, .f 25), (3, .f 26), (4, .f 27), (5, .f 28)]), (7, [])] [] (by kernel_rfl) (by kernel_rfl) ?_
    simp (disch := omega) only [SX0, SX1, SX2, SX3, SX4, SX5, SX6, SX7, SX8, SU0, SY0, SY1, Nat.reduceAdd, Nat.reduceMul, Nat.reduceSub, Nat.reduceLeDiff, Nat.reduceEqDiff, Nat.reduceLT, Nat.reduceBEq, ↓reduceIte, Int.reduceLE, Int.reduceLT, Int.reduceToNat, Int.reduceNeg, reduceCtorEq, Int.reduceEq, SF0, SF1, SF2, DDb0, DBc0, DBc1, DCe0, DCe1, DCe2, hk]
    have h1 := ih x (p.split b).1 (es ++ [partRow (p, b)]) (by omega) hx s1 f1 (fun e he => by
      rcases List.mem_append.1 he with he | he
      · exact hes e he
      · simp at he; subst he; exact partRow_len _) (by simp; omega)
    rw [List.length_append] at h1
    refine acall_own h1 [0] [0] (by simp only [SX0, SX1, SX2, SX3, SX4, SX5, SX6, SX7, SX8, SU0, SY0, SY1, Nat.reduceAdd, Nat.reduceMul, Nat.reduceSub, Nat.reduceLeDiff, Nat.reduceEqDiff, Nat.reduceLT, Nat.reduceBEq, ↓reduceIte, Int.reduceLE, Int.reduceLT, Int.reduceToNat, Int.reduceNeg, reduceCtorEq, Int.reduceEq, SF0, SF1, SF2, DDb0, DBc0, DBc1, DCe0, DCe1, DCe2, SX0]) (by decide) (by decide) (by rfl) (by simp only [SX0, SX1, SX2, SX3, SX4, SX5, SX6, SX7, SX8, SU0, SY0, SY1, Nat.reduceAdd, Nat.reduceMul, Nat.reduceSub, Nat.reduceLeDiff, Nat.reduceEqDiff, Nat.reduceLT, Nat.reduceBEq, ↓reduceIte, Int.reduceLE, Int.reduceLT, Int.reduceToNat, Int.reduceNeg, reduceCtorEq, Int.reduceEq, SF0, SF1, SF2, DDb0, DBc0, DBc1, DCe0, DCe1, DCe2, SX0]) ?_
    rintro _ _ ⟨rfl, rfl⟩
    simp (disch := omega) only [SX0, SX1, SX2, SX3, SX4, SX5, SX6, SX7, SX8, SU0, SY0, SY1, Nat.reduceAdd, Nat.reduceMul, Nat.reduceSub, Nat.reduceLeDiff, Nat.reduceEqDiff, Nat.reduceLT, Nat.reduceBEq, ↓reduceIte, Int.reduceLE, Int.reduceLT, Int.reduceToNat, Int.reduceNeg, reduceCtorEq, Int.reduceEq, SF0, SF1, SF2, DDb0, DBc0, DBc1, DCe0, DCe1, DCe2, hk]
    refine awp_float (bl := []) T_tt mixed [1, 2, 3, 4] [1, 2, 3, 4, 5] [(0, []), (6, [(1, .f 31), (2, .f 32), (3, .f 33), (4, .f 34), (5, .f 35)]), (7, [])] [] (by kernel_rfl) (by kernel_rfl) ?_
    simp (disch := omega) only [SX0, SX1, SX2, SX3, SX4, SX5, SX6, SX7, SX8, SU0, SY0, SY1, Nat.reduceAdd, Nat.reduceMul, Nat.reduceSub, Nat.reduceLeDiff, Nat.reduceEqDiff, Nat.reduceLT, Nat.reduceBEq, ↓reduceIte, Int.reduceLE, Int.reduceLT, Int.reduceToNat, Int.reduceNeg, reduceCtorEq, Int.reduceEq, SF0, SF1, SF2, DDb0, DBc0, DBc1, DCe0, DCe1, DCe2, hk]
    have h2 := ih y (p.split b).2 (es ++ [partRow (p, b)] ++ (x.parts (p.split b).1).map partRow) (by omega) hy s2 f2 (fun e he => by
      rcases List.mem_append.1 he with he | he
      · rcases List.mem_append.1 he with he | he
        · exact hes e he
        · simp at he; subst he; exact partRow_len _
      · obtain ⟨q, _, rfl⟩ := List.mem_map.1 he
        exact partRow_len _) (by simp [Plan.parts_len x hx]; omega)
    rw [List.length_append, List.length_append, List.length_map, Plan.parts_len x hx] at h2
    refine acall_own h2 [0] [0] (by simp only [SX0, SX1, SX2, SX3, SX4, SX5, SX6, SX7, SX8, SU0, SY0, SY1, Nat.reduceAdd, Nat.reduceMul, Nat.reduceSub, Nat.reduceLeDiff, Nat.reduceEqDiff, Nat.reduceLT, Nat.reduceBEq, ↓reduceIte, Int.reduceLE, Int.reduceLT, Int.reduceToNat, Int.reduceNeg, reduceCtorEq, Int.reduceEq, SF0, SF1, SF2, DDb0, DBc0, DBc1, DCe0, DCe1, DCe2, SX0]) (by decide) (by decide) (by rfl) (by simp only [SX0, SX1, SX2, SX3, SX4, SX5, SX6, SX7, SX8, SU0, SY0, SY1, Nat.reduceAdd, Nat.reduceMul, Nat.reduceSub, Nat.reduceLeDiff, Nat.reduceEqDiff, Nat.reduceLT, Nat.reduceBEq, ↓reduceIte, Int.reduceLE, Int.reduceLT, Int.reduceToNat, Int.reduceNeg, reduceCtorEq, Int.reduceEq, SF0, SF1, SF2, DDb0, DBc0, DBc1, DCe0, DCe1, DCe2, SX0]) ?_
    rintro _ _ ⟨rfl, rfl⟩
    simp (disch := omega) only [SX0, SX1, SX2, SX3, SX4, SX5, SX6, SX7, SX8, SU0, SY0, SY1, Nat.reduceAdd, Nat.reduceMul, Nat.reduceSub, Nat.reduceLeDiff, Nat.reduceEqDiff, Nat.reduceLT, Nat.reduceBEq, ↓reduceIte, Int.reduceLE, Int.reduceLT, Int.reduceToNat, Int.reduceNeg, reduceCtorEq, Int.reduceEq, SF0, SF1, SF2, DDb0, DBc0, DBc1, DCe0, DCe1, DCe2]
    exact fin_zero (.os 0 9 0 (es.length + p.nodes)) (.vec 9 (es ++ (p.parts b).map partRow)) ⟨rfl, rfl⟩ (by rw [Plan.nodes_two hk]; simp [AV.ren, nameK]; omega) (by rw [Plan.parts_cut hc hk]; simp [OB.ren]) (by simp) (by simp)
  · simp (disch := omega) only [SX0, SX1, SX2, SX3, SX4, SX5, SX6, SX7, SX8, SU0, SY0, SY1, Nat.reduceAdd, Nat.reduceMul, Nat.reduceSub, Nat.reduceLeDiff, Nat.reduceEqDiff, Nat.reduceLT, Nat.reduceBEq, ↓reduceIte, Int.reduceLE, Int.reduceLT, Int.reduceToNat, Int.reduceNeg, reduceCtorEq, Int.reduceEq, SF0, SF1, SF2, DDb0, DBc0, DBc1, DCe0, DCe1, DCe2]
    exact fin_zero (.os 0 9 0 (es.length + p.nodes)) (.vec 9 (es ++ (p.parts b).map partRow)) ⟨rfl, rfl⟩ (by rw [Plan.nodes_leaf hw hc]; rfl) (by rw [Plan.parts_leaf hc]; rfl) (by simp) (by simp)

theorem e_partsOf : Enters Try.prog 107 := enters_of Try.func107 (by kernel_rfl) (by kernel_rfl)
theorem partsOf_c (k : Work) (p : Plan) (hk : k.Ps.length < 2 ^ 40) : ACalls Try.prog 107 [.agg k.cs, .agg p.cs] [] [] (fun r L => r = .sl ((if p.valid k then p.parts k.sheet else []).map partRow) ∧ L = []) := by
  refine acalls_tm T_tt Try.func107 rfl e_partsOf 11 rfl (W8 _ _ .any .any .any .any .any .any [.any, .any, .any, .any, .any]) rfl (rv := [.tmp 4]) rfl (sx_sound (bl := []) T_tt _ _ _ ?_)
  simp (disch := omega) only [SX0, SX1, SX2, SX3, SX4, SX5, SX6, SX7, SX8, SU0, SY0, SY1, Nat.reduceAdd, Nat.reduceMul, Nat.reduceSub, Nat.reduceLeDiff, Nat.reduceEqDiff, Nat.reduceLT, Nat.reduceBEq, ↓reduceIte, Int.reduceLE, Int.reduceLT, Int.reduceToNat, Int.reduceNeg, reduceCtorEq, Int.reduceEq, SF0, SF1, SF2, DDb0, DBc0, DBc1, DCe0, DCe1, DCe2]
  refine acall_one (validPlanI_c k p hk) (by simp [freeL, AV.free, Plan.free, Work.free]) rfl ?_
  simp (disch := omega) only [SX0, SX1, SX2, SX3, SX4, SX5, SX6, SX7, SX8, SU0, SY0, SY1, Nat.reduceAdd, Nat.reduceMul, Nat.reduceSub, Nat.reduceLeDiff, Nat.reduceEqDiff, Nat.reduceLT, Nat.reduceBEq, ↓reduceIte, Int.reduceLE, Int.reduceLT, Int.reduceToNat, Int.reduceNeg, reduceCtorEq, Int.reduceEq, SF0, SF1, SF2, DDb0, DBc0, DBc1, DCe0, DCe1, DCe2]
  refine br_ndec (fun h => ?_) (fun h => ?_)
  · simp (disch := omega) only [SX0, SX1, SX2, SX3, SX4, SX5, SX6, SX7, SX8, SU0, SY0, SY1, Nat.reduceAdd, Nat.reduceMul, Nat.reduceSub, Nat.reduceLeDiff, Nat.reduceEqDiff, Nat.reduceLT, Nat.reduceBEq, ↓reduceIte, Int.reduceLE, Int.reduceLT, Int.reduceToNat, Int.reduceNeg, reduceCtorEq, Int.reduceEq, SF0, SF1, SF2, DDb0, DBc0, DBc1, DCe0, DCe1, DCe2]
    exact fin_nilrow ⟨by rw [if_neg h]; rfl, rfl⟩
  · simp (disch := omega) only [SX0, SX1, SX2, SX3, SX4, SX5, SX6, SX7, SX8, SU0, SY0, SY1, Nat.reduceAdd, Nat.reduceMul, Nat.reduceSub, Nat.reduceLeDiff, Nat.reduceEqDiff, Nat.reduceLT, Nat.reduceBEq, ↓reduceIte, Int.reduceLE, Int.reduceLT, Int.reduceToNat, Int.reduceNeg, reduceCtorEq, Int.reduceEq, SF0, SF1, SF2, DDb0, DBc0, DBc1, DCe0, DCe1, DCe2]
    have h0 := addParts_n k _ p k.sheet [] (Nat.le_refl _) h.2.1.1 (Work.sheet_sane h.1) h.2.2 (by simp) (by have := h.2.1.2; simp; omega)
    simp only [List.length_nil, Nat.zero_add, List.nil_append] at h0
    refine awp_float (bl := []) T_tt mixed [0, 1] [0, 1, 2] [(3, [(0, .f 9), (1, .f 10), (2, .f 11)]), (4, [])] [] (by kernel_rfl) (by kernel_rfl) ?_
    simp (disch := omega) only [SX0, SX1, SX2, SX3, SX4, SX5, SX6, SX7, SX8, SU0, SY0, SY1, Nat.reduceAdd, Nat.reduceMul, Nat.reduceSub, Nat.reduceLeDiff, Nat.reduceEqDiff, Nat.reduceLT, Nat.reduceBEq, ↓reduceIte, Int.reduceLE, Int.reduceLT, Int.reduceToNat, Int.reduceNeg, reduceCtorEq, Int.reduceEq, SF0, SF1, SF2, DDb0, DBc0, DBc1, DCe0, DCe1, DCe2]
    refine qc_one (sheetOf_c k) rfl ?_
    simp (disch := omega) only [SX0, SX1, SX2, SX3, SX4, SX5, SX6, SX7, SX8, SU0, SY0, SY1, Nat.reduceAdd, Nat.reduceMul, Nat.reduceSub, Nat.reduceLeDiff, Nat.reduceEqDiff, Nat.reduceLT, Nat.reduceBEq, ↓reduceIte, Int.reduceLE, Int.reduceLT, Int.reduceToNat, Int.reduceNeg, reduceCtorEq, Int.reduceEq, SF0, SF1, SF2, DDb0, DBc0, DBc1, DCe0, DCe1, DCe2]
    refine acall_nil0 9 (by decide) ?_
    simp (disch := omega) only [SX0, SX1, SX2, SX3, SX4, SX5, SX6, SX7, SX8, SU0, SY0, SY1, Nat.reduceAdd, Nat.reduceMul, Nat.reduceSub, Nat.reduceLeDiff, Nat.reduceEqDiff, Nat.reduceLT, Nat.reduceBEq, ↓reduceIte, Int.reduceLE, Int.reduceLT, Int.reduceToNat, Int.reduceNeg, reduceCtorEq, Int.reduceEq, SF0, SF1, SF2, DDb0, DBc0, DBc1, DCe0, DCe1, DCe2]
    refine acall_own h0 [2] [2] (by simp only [SX0, SX1, SX2, SX3, SX4, SX5, SX6, SX7, SX8, SU0, SY0, SY1, Nat.reduceAdd, Nat.reduceMul, Nat.reduceSub, Nat.reduceLeDiff, Nat.reduceEqDiff, Nat.reduceLT, Nat.reduceBEq, ↓reduceIte, Int.reduceLE, Int.reduceLT, Int.reduceToNat, Int.reduceNeg, reduceCtorEq, Int.reduceEq, SF0, SF1, SF2, DDb0, DBc0, DBc1, DCe0, DCe1, DCe2, SX0]) (by decide) (by decide) (by rfl) (by simp only [SX0, SX1, SX2, SX3, SX4, SX5, SX6, SX7, SX8, SU0, SY0, SY1, Nat.reduceAdd, Nat.reduceMul, Nat.reduceSub, Nat.reduceLeDiff, Nat.reduceEqDiff, Nat.reduceLT, Nat.reduceBEq, ↓reduceIte, Int.reduceLE, Int.reduceLT, Int.reduceToNat, Int.reduceNeg, reduceCtorEq, Int.reduceEq, SF0, SF1, SF2, DDb0, DBc0, DBc1, DCe0, DCe1, DCe2, SX0]) ?_
    rintro _ _ ⟨rfl, rfl⟩
    simp (disch := omega) only [SX0, SX1, SX2, SX3, SX4, SX5, SX6, SX7, SX8, SU0, SY0, SY1, Nat.reduceAdd, Nat.reduceMul, Nat.reduceSub, Nat.reduceLeDiff, Nat.reduceEqDiff, Nat.reduceLT, Nat.reduceBEq, ↓reduceIte, Int.reduceLE, Int.reduceLT, Int.reduceToNat, Int.reduceNeg, reduceCtorEq, Int.reduceEq, SF0, SF1, SF2, DDb0, DBc0, DBc1, DCe0, DCe1, DCe2]
    exact fin_row rfl (by simp [Plan.parts_len p h.2.1.1]) ⟨by rw [if_pos h], rfl⟩

end Go.Pc
