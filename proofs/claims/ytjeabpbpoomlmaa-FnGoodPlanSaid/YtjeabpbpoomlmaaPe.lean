/- The law of turned pieces: it holds of all bytes. -/
import Derived.Test.YtjeabpbpoomlmaaPd
import Derived.Test.YtjeabpbpoomlmaaIb
import Derived.Test.YtjeabpbpoomlmaaRow
import Derived.Test.YtjeabpbpoomlmaaTa
set_option linter.unusedSimpArgs false
set_option linter.unusedVariables false
namespace Go.Pc
open Go Go.Proofs

/-- Left and right exchanged on glass of a width. -/
def Box.flip (w : Int) (b : Box) : Box := ⟨w - b.X - b.W, b.Y, b.W, b.H⟩
def Piece.turn (q : Piece) : Piece := ⟨q.La, q.W, q.H, q.Fl.map (Box.flip q.W)⟩

theorem Plan.places_cut {p x y : Plan} (hc : p.cut) (hk : p.ks = [x, y]) (b : Box) : p.places b = x.places (p.split b).1 ++ y.places (p.split b).2 := by
  have hn : placeOf (p, b) = none := by unfold placeOf; rw [if_neg]; simp only; unfold Plan.cut at hc; omega
  unfold Plan.places
  rw [Plan.parts_cut hc hk, List.filterMap_cons, hn, List.filterMap_append]

theorem mirror_flip (k : Work) : ∀ (p : Plan), p.wf = true → ∀ b : Box, p.fits k b.W b.H = true → ∀ (X' : Int), ∀ q ∈ p.places b, ∃ q' ∈ (p.mirror b.W).places ⟨X', b.Y, b.W, b.H⟩, q'.box = ⟨X' + (b.X + b.W - q.box.X - q.box.W), q.box.Y, q.box.W, q.box.H⟩ :=
  Plan.wf_ind (fun p hw hc b hf X' q hq => by
    rw [Plan.mirror_leaf hc]
    unfold Plan.places at *
    rw [Plan.parts_leaf hc] at *
    by_cases ho : p.op = 1
    · have e : ∀ c : Box, [(p, c)].filterMap placeOf = [⟨p.pa, p.tu, c⟩] := fun c => by simp [placeOf, ho]
      rw [e] at hq
      rw [e]
      rw [List.mem_singleton.1 hq]
      refine ⟨_, List.mem_singleton.2 rfl, ?_⟩
      simp only [Box.mk.injEq, and_self, and_true]
      omega
    · have e : [(p, b)].filterMap placeOf = [] := by simp [placeOf, ho]
      rw [e] at hq; cases hq) (fun p x y hw hc hk hx hy ix iy b hf X' q hq => by
    obtain ⟨f1, f2, c1, c2, c3⟩ := Plan.fits_cut hc hk hf
    rw [Plan.places_cut hc hk] at hq
    rcases hc with h | h
    · have s1 : (p.split b).1 = ⟨b.X, b.Y, p.at_, b.H⟩ := by unfold Plan.split; rw [if_pos h]
      have s2 : (p.split b).2 = ⟨b.X + p.at_, b.Y, b.W - p.at_, b.H⟩ := by unfold Plan.split; rw [if_pos h]
      rw [s1, s2] at hq
      rw [s1] at f1
      rw [s2] at f2
      rw [Plan.mirror_down h hk]
      generalize hm : Plan.mk 2 (b.W - p.at_) 0 false [y.mirror (b.W - p.at_), x.mirror p.at_] = m
      have mo : m.op = 2 := by rw [← hm]; rfl
      have ma : m.at_ = b.W - p.at_ := by rw [← hm]; rfl
      have mk' : m.ks = [y.mirror (b.W - p.at_), x.mirror p.at_] := by rw [← hm]; rfl
      have t1 : (m.split ⟨X', b.Y, b.W, b.H⟩).1 = ⟨X', b.Y, b.W - p.at_, b.H⟩ := by unfold Plan.split; rw [if_pos mo, ma]
      have t2 : (m.split ⟨X', b.Y, b.W, b.H⟩).2 = ⟨X' + (b.W - p.at_), b.Y, p.at_, b.H⟩ := by unfold Plan.split; rw [if_pos mo, ma]; simp only [Box.mk.injEq, and_self, and_true, true_and]; omega
      rw [Plan.places_cut (.inl mo) mk', t1, t2]
      rcases List.mem_append.1 hq with hq | hq
      · obtain ⟨q', h1, h2⟩ := ix _ f1 (X' + (b.W - p.at_)) q hq
        refine ⟨q', List.mem_append_right _ h1, ?_⟩
        rw [h2]; simp only [Box.mk.injEq, and_self, and_true]; omega
      · obtain ⟨q', h1, h2⟩ := iy _ f2 X' q hq
        refine ⟨q', List.mem_append_left _ h1, ?_⟩
        rw [h2]; simp only [Box.mk.injEq, and_self, and_true]; omega
    · have hn2 : ¬ p.op = 2 := by omega
      have s1 : (p.split b).1 = ⟨b.X, b.Y, b.W, p.at_⟩ := by unfold Plan.split; rw [if_neg hn2]
      have s2 : (p.split b).2 = ⟨b.X, b.Y + p.at_, b.W, b.H - p.at_⟩ := by unfold Plan.split; rw [if_neg hn2]
      rw [s1, s2] at hq
      rw [s1] at f1
      rw [s2] at f2
      rw [Plan.mirror_across h hk]
      generalize hm : Plan.mk 3 p.at_ 0 false [x.mirror b.W, y.mirror b.W] = m
      have mo : m.op = 3 := by rw [← hm]; rfl
      have mo2 : ¬ m.op = 2 := by omega
      have ma : m.at_ = p.at_ := by rw [← hm]; rfl
      have mk' : m.ks = [x.mirror b.W, y.mirror b.W] := by rw [← hm]; rfl
      have t1 : (m.split ⟨X', b.Y, b.W, b.H⟩).1 = ⟨X', b.Y, b.W, p.at_⟩ := by unfold Plan.split; rw [if_neg mo2, ma]
      have t2 : (m.split ⟨X', b.Y, b.W, b.H⟩).2 = ⟨X', b.Y + p.at_, b.W, b.H - p.at_⟩ := by unfold Plan.split; rw [if_neg mo2, ma]
      rw [Plan.places_cut (.inr mo) mk', t1, t2]
      rcases List.mem_append.1 hq with hq | hq
      · obtain ⟨q', h1, h2⟩ := ix _ f1 X' q hq
        exact ⟨q', List.mem_append_left _ h1, h2⟩
      · obtain ⟨q', h1, h2⟩ := iy _ f2 X' q hq
        exact ⟨q', List.mem_append_right _ h1, h2⟩)

theorem meets_flip {a b : Box} {w : Int} (hw : w ≤ 200) (ha : a.X + a.W ≤ w) (hb : b.X + b.W ≤ w) (h : a.meets b) : (a.flip w).meets (b.flip w) := by
  obtain ⟨h1, h2, h3, h4⟩ := h
  unfold Box.ok at h1 h2
  unfold Box.meet at h3 h4
  simp only at h3 h4
  refine ⟨?_, ?_, ?_⟩
  · unfold Box.ok Box.flip; simp only; omega
  · unfold Box.ok Box.flip; simp only; omega
  · unfold Box.meet Box.flip; simp only; omega
theorem flip_flip (w : Int) (b : Box) : (b.flip w).flip w = b := by
  unfold Box.flip
  cases b
  simp only [Box.mk.injEq, and_self, and_true]
  omega
theorem Piece.turn_ok {q : Piece} (h : q.ok) : q.turn.ok := by
  obtain ⟨h1, h2, h3, h4, h5⟩ := h
  refine ⟨h1, h2, h3, by simp [Piece.turn]; omega, fun b hb => ?_⟩
  obtain ⟨f, hf, rfl⟩ := List.mem_map.1 hb
  have := h5 f hf
  unfold Box.inside Box.ok Piece.box at this
  simp only at this
  unfold Box.inside Box.ok Piece.box Box.flip Piece.turn
  simp only
  omega

theorem Plan.mirror_valid' {p : Plan} {k : Work} (hv : p.valid k) : (p.mirror k.W).valid k ∧ (p.mirror k.W).mirror k.W = p := by
  obtain ⟨w1, n1, f1, e1, _⟩ := Plan.mirror_all k p hv.2.1.1 k.sheet hv.2.2
  exact ⟨⟨hv.1, ⟨w1, Nat.le_trans (Nat.le_of_eq n1) hv.2.1.2⟩, f1⟩, e1⟩
theorem clean_turn {p : Plan} {q : Piece} {k : Work} (hq : q.ok) (hp : p.valid k) (hW : k.W = q.W) (hH : k.H = q.H) : (p.mirror k.W).clean q.turn k ↔ p.clean q k := by
  have hpm := (Plan.mirror_valid' hp)
  have hq2 := hq
  obtain ⟨_, q1, q2, _, q5⟩ := hq2
  have hin : ∀ f ∈ q.Fl, f.X + f.W ≤ q.W := fun f hf => by
    have := q5 f hf
    unfold Box.inside Piece.box at this
    simp only at this
    omega
  have key : ∀ (p : Plan), p.valid k → ∀ c ∈ p.places k.sheet, (∃ c' ∈ (p.mirror k.W).places k.sheet, c'.box = c.box.flip q.W) ∧ c.box.X + c.box.W ≤ q.W := fun p hp c hc => by
    obtain ⟨c', h1, h2⟩ := mirror_flip k p hp.2.1.1 k.sheet hp.2.2 0 c hc
    refine ⟨⟨c', h1, ?_⟩, ?_⟩
    · rw [h2]
      unfold Box.flip Work.sheet
      simp only [Box.mk.injEq, and_self, and_true]
      omega
    · have := (Plan.places_in k p hp.2.1.1 k.sheet (Work.sheet_sane hp.1) hp.2.2 c hc).2
      unfold Box.inside Work.sheet at this
      simp only at this
      omega
  have hw200 : q.W ≤ 200 := by omega
  constructor
  · intro h
    refine ⟨hq, hp, hW, hH, fun c hc f hf hm => ?_⟩
    obtain ⟨⟨c', h1, h2⟩, h3⟩ := key p hp c hc
    have := h.2.2.2.2 c' h1 (f.flip q.W) (List.mem_map.2 ⟨f, hf, rfl⟩)
    rw [h2] at this
    exact this (meets_flip hw200 (hin f hf) h3 hm)
  · intro h
    refine ⟨Piece.turn_ok hq, hpm.1, hW, hH, fun c hc f hf hm => ?_⟩
    obtain ⟨f0, hf0, rfl⟩ := List.mem_map.1 hf
    obtain ⟨⟨c', h1, h2⟩, h3⟩ := key _ hpm.1 c hc
    rw [hpm.2] at h1
    have hfl : (f0.flip q.W).X + (f0.flip q.W).W ≤ q.W := by
      have := q5 f0 hf0
      unfold Box.inside Box.ok Piece.box at this
      simp only at this
      unfold Box.flip
      simp only
      omega
    have hm2 := meets_flip hw200 hfl h3 hm
    rw [flip_flip, ← h2] at hm2
    exact h.2.2.2.2 c' h1 f0 hf0 hm2

theorem ACalls.nrmA {P : Program} {f : FuncId} {args : List AV} {L0 : List OB} {fx : List Nat} {R : AV → List OB → Prop} (h : ACalls P f (nrmL args) L0 fx R) : ACalls P f args L0 fx R :=
  ⟨h.1, fun ρ w vs h1 h2 h3 => h.2 ρ w vs h1 (by rw [h2, nrmL_map, List.length_map]) fun i v x hv hx => by
    rw [nrmL_map, List.getElem?_map] at hx
    cases hq : args[i]? with
    | none => simp [hq] at hx
    | some y => simp [hq] at hx; subst hx; exact (h3 i v y hv hq).nrm⟩
theorem Work.nrmd2 (k : Work) : nrmL k.cs = k.cs := by rw [Work.cs]; simp [nrmL, AV.nrm]
theorem Plan.nrmd2 (p : Plan) : nrmL p.cs = p.cs := by rw [Plan.cs_eq]; simp [nrmL, AV.nrm]

theorem e_copyPiece : Enters Try.prog 111 := enters_of Try.func111 (by kernel_rfl) (by kernel_rfl)
theorem copyPiece_o (q : Piece) (hl : q.Fl.length ≤ 1000) : ACalls Try.prog 111 [.agg q.cs] [] [] (fun r L => r = .agg [.val (.int .i64 q.La), .val (.int .i64 q.W), .val (.int .i64 q.H), .os 0 4 0 q.Fl.length] ∧ L = [.vec 4 (q.Fl.map Box.cs)]) := by
  refine acalls_tm T_tt Try.func111 rfl e_copyPiece 7 rfl (W8 _ .any .any .any .any .any .any .any []) rfl (rv := [.cell 2 68]) rfl (sx_sound (bl := []) T_tt _ _ _ ?_)
  simp (disch := omega) only [SX0, SX1, SX2, SX3, SX4, SX5, SX6, SX7, SX8, SU0, SY0, SY1, Nat.reduceAdd, Nat.reduceMul, Nat.reduceSub, Nat.reduceLeDiff, Nat.reduceEqDiff, Nat.reduceLT, Nat.reduceBEq, ↓reduceIte, Int.reduceLE, Int.reduceLT, Int.reduceToNat, Int.reduceNeg, reduceCtorEq, Int.reduceEq, SF0, SF1, SF2, DPa0, DHb0, DHb1, DHa0, DCg0, DCe0, DCe1, DCe2, DDb0, DBc0, DBc1, DLa0, DDe0, DAlh0, Piece.cs]
  refine req ⟨fun c hc => ?_, by omega, by omega⟩ ?_
  · obtain ⟨b, _, rfl⟩ := List.mem_map.1 hc
    exact ⟨rfl, rfl, rfl⟩
  simp (disch := omega) only [SX0, SX1, SX2, SX3, SX4, SX5, SX6, SX7, SX8, SU0, SY0, SY1, Nat.reduceAdd, Nat.reduceMul, Nat.reduceSub, Nat.reduceLeDiff, Nat.reduceEqDiff, Nat.reduceLT, Nat.reduceBEq, ↓reduceIte, Int.reduceLE, Int.reduceLT, Int.reduceToNat, Int.reduceNeg, reduceCtorEq, Int.reduceEq, SF0, SF1, SF2, DPa0, DHb0, DHb1, DHa0, DCg0, DCe0, DCe1, DCe2, DDb0, DBc0, DBc1, DLa0, DDe0, DAlh0, Piece.cs]
  exact fin_ks [2] (.agg [.val (.int .i64 q.La), .val (.int .i64 q.W), .val (.int .i64 q.H), .os 0 4 0 q.Fl.length]) [.vec 4 (q.Fl.map Box.cs)] ⟨rfl, rfl⟩ (by simp [AV.ren, renL, nameK]) ⟨rfl, trivial⟩ (by simp) (by simp) (by simp)

theorem fin_piece2 {R : AV → List OB → Prop} {s : AS} {la w h : Int} {fl : List Box} {n : Nat} {es : List (List AV)} {r : Nat} (h7 : s.L[r]? = some (.vec 4 es)) (he : es = fl.map Box.cs) (hn : n = fl.length)
    (hR : R (.agg (Piece.mk la w h fl).cs) []) : Fin [] 0 R s (.agg [.val (.int .i64 la), .val (.int .i64 w), .val (.int .i64 h), .os r 4 0 n]) := by
  subst he
  subst hn
  refine fin_frz h7 (by simp) ?_
  simp only [AV.frz, frzL, if_true, Nat.zero_add, true_and, List.length_map, Nat.le_refl, List.drop_zero]
  rw [List.take_of_length_le (by simp)]
  exact fin_free (by simp [AV.free, freeL]) hR

theorem e_turnPiece : Enters Try.prog 58 := enters_of Try.func58 (by kernel_rfl) (by kernel_rfl)
set_option maxRecDepth 8000 in
set_option maxHeartbeats 4000000 in
theorem turnPiece_c (q : Piece) (hq : q.ok) : ACalls Try.prog 58 [.agg q.cs] [] [] (fun r L => r = .agg q.turn.cs ∧ L = []) := by
  obtain ⟨q0, q1, q2, q3, q5⟩ := id hq
  have hV := validPieceI_c q (by omega)
  rw [decide_eq_true hq] at hV
  have hm : (q.Fl.map fun b => Box.cs (b.flip q.W)).length = (q.Fl.map Box.cs).length := by simp
  refine acalls_tm T_tt Try.func58 rfl e_turnPiece 34 rfl (W8 _ .any .any .any .any .any .any .any (W8 .any .any .any .any .any .any .any .any (W8 .any .any .any .any .any .any .any .any (W8 .any .any .any .any .any .any .any .any [.any, .any, .any])))) rfl (rv := [.cell 2 68]) rfl (sx_sound (bl := []) T_tt _ _ _ ?_)
  simp (disch := omega) only [SX0, SX1, SX2, SX3, SX4, SX5, SX6, SX7, SX8, SU0, SY0, SY1, Nat.reduceAdd, Nat.reduceMul, Nat.reduceSub, Nat.reduceLeDiff, Nat.reduceEqDiff, Nat.reduceLT, Nat.reduceBEq, ↓reduceIte, Int.reduceLE, Int.reduceLT, Int.reduceToNat, Int.reduceNeg, reduceCtorEq, Int.reduceEq, SF0, SF1, SF2, DPa0, DHb0, DHb1, DHa0, DCg0, DCe0, DCe1, DCe2, DDb0, DBc0, DBc1, DLa0, DDe0, DAlh0]
  refine acall_one hV (by simp [freeL, AV.free, Piece.free]) rfl ?_
  simp (disch := omega) only [SX0, SX1, SX2, SX3, SX4, SX5, SX6, SX7, SX8, SU0, SY0, SY1, Nat.reduceAdd, Nat.reduceMul, Nat.reduceSub, Nat.reduceLeDiff, Nat.reduceEqDiff, Nat.reduceLT, Nat.reduceBEq, ↓reduceIte, Int.reduceLE, Int.reduceLT, Int.reduceToNat, Int.reduceNeg, reduceCtorEq, Int.reduceEq, SF0, SF1, SF2, DPa0, DHb0, DHb1, DHa0, DCg0, DCe0, DCe1, DCe2, DDb0, DBc0, DBc1, DLa0, DDe0, DAlh0]
  refine acall_own (copyPiece_o q (by omega)) [] [] (by simp only [SX0, SX1, SX2, SX3, SX4, SX5, SX6, SX7, SX8, SU0, SY0, SY1, Nat.reduceAdd, Nat.reduceMul, Nat.reduceSub, Nat.reduceLeDiff, Nat.reduceEqDiff, Nat.reduceLT, Nat.reduceBEq, ↓reduceIte, Int.reduceLE, Int.reduceLT, Int.reduceToNat, Int.reduceNeg, reduceCtorEq, Int.reduceEq, SF0, SF1, SF2, DPa0, DHb0, DHb1, DHa0, DCg0, DCe0, DCe1, DCe2, DDb0, DBc0, DBc1, DLa0, DDe0, DAlh0, SX0]) (by decide) (by decide) (by rfl) (by simp only [SX0, SX1, SX2, SX3, SX4, SX5, SX6, SX7, SX8, SU0, SY0, SY1, Nat.reduceAdd, Nat.reduceMul, Nat.reduceSub, Nat.reduceLeDiff, Nat.reduceEqDiff, Nat.reduceLT, Nat.reduceBEq, ↓reduceIte, Int.reduceLE, Int.reduceLT, Int.reduceToNat, Int.reduceNeg, reduceCtorEq, Int.reduceEq, SF0, SF1, SF2, DPa0, DHb0, DHb1, DHa0, DCg0, DCe0, DCe1, DCe2, DDb0, DBc0, DBc1, DLa0, DDe0, DAlh0, SX0]) ?_
  rintro _ _ ⟨rfl, rfl⟩
  simp (disch := omega) only [SX0, SX1, SX2, SX3, SX4, SX5, SX6, SX7, SX8, SU0, SY0, SY1, Nat.reduceAdd, Nat.reduceMul, Nat.reduceSub, Nat.reduceLeDiff, Nat.reduceEqDiff, Nat.reduceLT, Nat.reduceBEq, ↓reduceIte, Int.reduceLE, Int.reduceLT, Int.reduceToNat, Int.reduceNeg, reduceCtorEq, Int.reduceEq, SF0, SF1, SF2, DPa0, DHb0, DHb1, DHa0, DCg0, DCe0, DCe1, DCe2, DDb0, DBc0, DBc1, DLa0, DDe0, DAlh0]
  with_reducible refine awp_loop_h (G := Nat) 16 19 (fun i => [(4, .any), (5, .any), (15, .val (.int .i64 i))]) (fun i => [.cells q.cs, .cells [.val (.int .i64 0), .val (.int .i64 0), .val (.int .i64 0), .val (.slice none 0 0)], .vec 4 (mixR (q.Fl.map fun b => Box.cs (b.flip q.W)) (q.Fl.map Box.cs) i), .cells [.val (.int .i64 q.La), .val (.int .i64 q.W), .val (.int .i64 q.H), .os 2 4 0 q.Fl.length]]) (fun i => i ≤ q.Fl.length) (fun i => q.Fl.length - i) 0 (Nat.zero_le _) ?_ (fun i hi => sx_sound (bl := []) T_tt _ _ _ ?_)
  · simp (disch := omega) only [SX0, SX1, SX2, SX3, SX4, SX5, SX6, SX7, SX8, SU0, SY0, SY1, Nat.reduceAdd, Nat.reduceMul, Nat.reduceSub, Nat.reduceLeDiff, Nat.reduceEqDiff, Nat.reduceLT, Nat.reduceBEq, ↓reduceIte, Int.reduceLE, Int.reduceLT, Int.reduceToNat, Int.reduceNeg, reduceCtorEq, Int.reduceEq, SF0, SF1, SF2, DPa0, DHb0, DHb1, DHa0, DCg0, DCe0, DCe1, DCe2, DDb0, DBc0, DBc1, DLa0, DDe0, DAlh0]
    (refine wk_le ?_ ?_ ?_; (focus (simp [W8, leTm, leAV, AV.under, underL, mixR_zero, Piece.under]; done)); (focus (simp [leL, OB.under, underL, AV.under, mixR_zero, Piece.under]; done)); (focus (simp; done)))
  simp (disch := omega) only [SX0, SX1, SX2, SX3, SX4, SX5, SX6, SX7, SX8, SU0, SY0, SY1, Nat.reduceAdd, Nat.reduceMul, Nat.reduceSub, Nat.reduceLeDiff, Nat.reduceEqDiff, Nat.reduceLT, Nat.reduceBEq, ↓reduceIte, Int.reduceLE, Int.reduceLT, Int.reduceToNat, Int.reduceNeg, reduceCtorEq, Int.reduceEq, SF0, SF1, SF2, DPa0, DHb0, DHb1, DHa0, DCg0, DCe0, DCe1, DCe2, DDb0, DBc0, DBc1, DLa0, DDe0, DAlh0]
  refine br_dec (fun h1 => ?_) (fun h1 => ?_)
  · obtain ⟨b, hb⟩ := get_lt (l := q.Fl) (i := i) (by omega)
    have hin := q5 b (List.mem_of_getElem? hb)
    unfold Box.inside Box.ok Piece.box at hin
    simp only at hin
    have hg : (mixR (q.Fl.map fun b => Box.cs (b.flip q.W)) (q.Fl.map Box.cs) i)[i]? = some [.val (.int .i64 b.X), .val (.int .i64 b.Y), .val (.int .i64 b.W), .val (.int .i64 b.H)] := by rw [mixR_get hm]; simp [hb, Box.cs]
    have hset : ∀ x : List AV, ((mixR (q.Fl.map fun b => Box.cs (b.flip q.W)) (q.Fl.map Box.cs) i).set i x)[i]? = some x := fun x => List.getElem?_set_self (by rw [mixR_len hm]; simp; omega)
    have hnext := mixR_set (m := q.Fl.map fun b => Box.cs (b.flip q.W)) (l := q.Fl.map Box.cs) hm (i := i) (x := [.val (.int .i64 (q.W - b.X - b.W)), .val (.int .i64 b.Y), .val (.int .i64 b.W), .val (.int .i64 b.H)]) (by simp [hb, Box.flip, Box.cs])
    simp (disch := omega) only [SX0, SX1, SX2, SX3, SX4, SX5, SX6, SX7, SX8, SU0, SY0, SY1, Nat.reduceAdd, Nat.reduceMul, Nat.reduceSub, Nat.reduceLeDiff, Nat.reduceEqDiff, Nat.reduceLT, Nat.reduceBEq, ↓reduceIte, Int.reduceLE, Int.reduceLT, Int.reduceToNat, Int.reduceNeg, reduceCtorEq, Int.reduceEq, SF0, SF1, SF2, DPa0, DHb0, DHb1, DHa0, DCg0, DCe0, DCe1, DCe2, DDb0, DBc0, DBc1, DLa0, DDe0, DAlh0, hb]
    repeat' first | simp (disch := omega) only [SX0, SX1, SX2, SX3, SX4, SX5, SX6, SX7, SX8, SU0, SY0, SY1, Nat.reduceAdd, Nat.reduceMul, Nat.reduceSub, Nat.reduceLeDiff, Nat.reduceEqDiff, Nat.reduceLT, Nat.reduceBEq, ↓reduceIte, Int.reduceLE, Int.reduceLT, Int.reduceToNat, Int.reduceNeg, reduceCtorEq, Int.reduceEq, SF0, SF1, SF2, DPa0, DHb0, DHb1, DHa0, DCg0, DCe0, DCe1, DCe2, DDb0, DBc0, DBc1, DLa0, DDe0, DAlh0, hb, hg, hset, List.set_set] | refine req (by omega) ?_
    refine ⟨i + 1, by omega, by omega, ?_⟩
    (refine wk_le ?_ ?_ ?_; (focus (simp [W8, leTm, leAV, AV.under, underL, hnext, Piece.under]; done)); (focus (simp [leL, OB.under, underL, AV.under, hnext, Piece.under]; done)); (focus (simp; done)))
  · have hf : mixR (q.Fl.map fun b => Box.cs (b.flip q.W)) (q.Fl.map Box.cs) i = (q.Fl.map (Box.flip q.W)).map Box.cs := by rw [mixR_full hm (by simp; omega), List.map_map]; rfl
    simp (disch := omega) only [SX0, SX1, SX2, SX3, SX4, SX5, SX6, SX7, SX8, SU0, SY0, SY1, Nat.reduceAdd, Nat.reduceMul, Nat.reduceSub, Nat.reduceLeDiff, Nat.reduceEqDiff, Nat.reduceLT, Nat.reduceBEq, ↓reduceIte, Int.reduceLE, Int.reduceLT, Int.reduceToNat, Int.reduceNeg, reduceCtorEq, Int.reduceEq, SF0, SF1, SF2, DPa0, DHb0, DHb1, DHa0, DCg0, DCe0, DCe1, DCe2, DDb0, DBc0, DBc1, DLa0, DDe0, DAlh0]
    exact fin_piece2 rfl hf (by simp) ⟨rfl, rfl⟩

theorem e_fnGoodPlan : Enters Try.prog 11 := enters_of Try.func11 (by kernel_rfl) (by kernel_rfl)
set_option maxRecDepth 8000 in
set_option maxHeartbeats 4000000 in
theorem fnGoodPlan_c : LawC 11 := by
  intro xs hx hl
  refine acalls_tm T_tt Try.func11 rfl e_fnGoodPlan 61 rfl (W8 _ .any .any .any .any .any .any .any (W8 .any .any .any .any .any .any .any .any (W8 .any .any .any .any .any .any .any .any (W8 .any .any .any .any .any .any .any .any (W8 .any .any .any .any .any .any .any .any (W8 .any .any .any .any .any .any .any .any (W8 .any .any .any .any .any .any .any .any [.any, .any, .any, .any, .any, .any]))))))) rfl (rv := [.tmp 2]) rfl (sx_sound (bl := []) T_tt _ _ _ ?_)
  simp (disch := omega) only [SX0, SX1, SX2, SX3, SX4, SX5, SX6, SX7, SX8, SU0, SY0, SY1, Nat.reduceAdd, Nat.reduceMul, Nat.reduceSub, Nat.reduceLeDiff, Nat.reduceEqDiff, Nat.reduceLT, Nat.reduceBEq, ↓reduceIte, Int.reduceLE, Int.reduceLT, Int.reduceToNat, Int.reduceNeg, reduceCtorEq, Int.reduceEq, SF0, SF1, SF2, DPa0, DHb0, DHb1, DHa0, DCg0, DCe0, DCe1, DCe2, DDb0, DBc0, DBc1, DLa0, DDe0, DAlh0, bysLen]
  refine br_dec (fun h1 => ?_) (fun h1 => ?_)
  · simp (disch := omega) only [SX0, SX1, SX2, SX3, SX4, SX5, SX6, SX7, SX8, SU0, SY0, SY1, Nat.reduceAdd, Nat.reduceMul, Nat.reduceSub, Nat.reduceLeDiff, Nat.reduceEqDiff, Nat.reduceLT, Nat.reduceBEq, ↓reduceIte, Int.reduceLE, Int.reduceLT, Int.reduceToNat, Int.reduceNeg, reduceCtorEq, Int.reduceEq, SF0, SF1, SF2, DPa0, DHb0, DHb1, DHa0, DCg0, DCe0, DCe1, DCe2, DDb0, DBc0, DBc1, DLa0, DDe0, DAlh0]
    exact fin_val ⟨rfl, rfl⟩
  simp (disch := omega) only [SX0, SX1, SX2, SX3, SX4, SX5, SX6, SX7, SX8, SU0, SY0, SY1, Nat.reduceAdd, Nat.reduceMul, Nat.reduceSub, Nat.reduceLeDiff, Nat.reduceEqDiff, Nat.reduceLT, Nat.reduceBEq, ↓reduceIte, Int.reduceLE, Int.reduceLT, Int.reduceToNat, Int.reduceNeg, reduceCtorEq, Int.reduceEq, SF0, SF1, SF2, DPa0, DHb0, DHb1, DHa0, DCg0, DCe0, DCe1, DCe2, DDb0, DBc0, DBc1, DLa0, DDe0, DAlh0]
  refine acall_own (drawGoodPlan_c xs hx) [] [] (by simp only [SX0, SX1, SX2, SX3, SX4, SX5, SX6, SX7, SX8, SU0, SY0, SY1, Nat.reduceAdd, Nat.reduceMul, Nat.reduceSub, Nat.reduceLeDiff, Nat.reduceEqDiff, Nat.reduceLT, Nat.reduceBEq, ↓reduceIte, Int.reduceLE, Int.reduceLT, Int.reduceToNat, Int.reduceNeg, reduceCtorEq, Int.reduceEq, SF0, SF1, SF2, DPa0, DHb0, DHb1, DHa0, DCg0, DCe0, DCe1, DCe2, DDb0, DBc0, DBc1, DLa0, DDe0, DAlh0, SX0]) (by decide) (by decide) (by rfl) (by simp only [SX0, SX1, SX2, SX3, SX4, SX5, SX6, SX7, SX8, SU0, SY0, SY1, Nat.reduceAdd, Nat.reduceMul, Nat.reduceSub, Nat.reduceLeDiff, Nat.reduceEqDiff, Nat.reduceLT, Nat.reduceBEq, ↓reduceIte, Int.reduceLE, Int.reduceLT, Int.reduceToNat, Int.reduceNeg, reduceCtorEq, Int.reduceEq, SF0, SF1, SF2, DPa0, DHb0, DHb1, DHa0, DCg0, DCe0, DCe1, DCe2, DDb0, DBc0, DBc1, DLa0, DDe0, DAlh0, SX0]) ?_
  rintro _ _ ⟨rfl, q, k, p, rfl, hk, hf, hw, hh⟩
  have hkl : k.Ps.length < 2 ^ 40 := by have := hk.2.2.2; omega
  have hfl : q.Fl.length < 2 ^ 40 := by omega
  have G1 := goodPlanI_c q k p hfl hkl
  have G2 := goodPlanSS_c q k p hfl hkl ⟨by omega, by omega⟩
  have V1 := validPieceI_c q hfl
  have V2 := validPlanI_c k p hkl
  generalize hd : decide (p.clean q k) = d at *
  simp (disch := omega) only [SX0, SX1, SX2, SX3, SX4, SX5, SX6, SX7, SX8, SU0, SY0, SY1, Nat.reduceAdd, Nat.reduceMul, Nat.reduceSub, Nat.reduceLeDiff, Nat.reduceEqDiff, Nat.reduceLT, Nat.reduceBEq, ↓reduceIte, Int.reduceLE, Int.reduceLT, Int.reduceToNat, Int.reduceNeg, reduceCtorEq, Int.reduceEq, SF0, SF1, SF2, DPa0, DHb0, DHb1, DHa0, DCg0, DCe0, DCe1, DCe2, DDb0, DBc0, DBc1, DLa0, DDe0, DAlh0]
  refine acall_one G1 (by simp [freeL, AV.free, Plan.free, Work.free, Piece.free]) rfl ?_
  simp (disch := omega) only [SX0, SX1, SX2, SX3, SX4, SX5, SX6, SX7, SX8, SU0, SY0, SY1, Nat.reduceAdd, Nat.reduceMul, Nat.reduceSub, Nat.reduceLeDiff, Nat.reduceEqDiff, Nat.reduceLT, Nat.reduceBEq, ↓reduceIte, Int.reduceLE, Int.reduceLT, Int.reduceToNat, Int.reduceNeg, reduceCtorEq, Int.reduceEq, SF0, SF1, SF2, DPa0, DHb0, DHb1, DHa0, DCg0, DCe0, DCe1, DCe2, DDb0, DBc0, DBc1, DLa0, DDe0, DAlh0]
  refine acall_one G2 (by simp [freeL, AV.free, Plan.free, Work.free, Piece.free]) rfl ?_
  simp (disch := omega) only [SX0, SX1, SX2, SX3, SX4, SX5, SX6, SX7, SX8, SU0, SY0, SY1, Nat.reduceAdd, Nat.reduceMul, Nat.reduceSub, Nat.reduceLeDiff, Nat.reduceEqDiff, Nat.reduceLT, Nat.reduceBEq, ↓reduceIte, Int.reduceLE, Int.reduceLT, Int.reduceToNat, Int.reduceNeg, reduceCtorEq, Int.reduceEq, SF0, SF1, SF2, DPa0, DHb0, DHb1, DHa0, DCg0, DCe0, DCe1, DCe2, DDb0, DBc0, DBc1, DLa0, DDe0, DAlh0, eq_self, ne_eq, not_true, decide_false, decide_true]
  refine acall_one V1 (by simp [freeL, AV.free, Plan.free, Work.free, Piece.free]) rfl ?_
  simp (disch := omega) only [SX0, SX1, SX2, SX3, SX4, SX5, SX6, SX7, SX8, SU0, SY0, SY1, Nat.reduceAdd, Nat.reduceMul, Nat.reduceSub, Nat.reduceLeDiff, Nat.reduceEqDiff, Nat.reduceLT, Nat.reduceBEq, ↓reduceIte, Int.reduceLE, Int.reduceLT, Int.reduceToNat, Int.reduceNeg, reduceCtorEq, Int.reduceEq, SF0, SF1, SF2, DPa0, DHb0, DHb1, DHa0, DCg0, DCe0, DCe1, DCe2, DDb0, DBc0, DBc1, DLa0, DDe0, DAlh0]
  by_cases hq : q.ok
  · rw [decide_eq_true hq] at *
    simp (disch := omega) only [SX0, SX1, SX2, SX3, SX4, SX5, SX6, SX7, SX8, SU0, SY0, SY1, Nat.reduceAdd, Nat.reduceMul, Nat.reduceSub, Nat.reduceLeDiff, Nat.reduceEqDiff, Nat.reduceLT, Nat.reduceBEq, ↓reduceIte, Int.reduceLE, Int.reduceLT, Int.reduceToNat, Int.reduceNeg, reduceCtorEq, Int.reduceEq, SF0, SF1, SF2, DPa0, DHb0, DHb1, DHa0, DCg0, DCe0, DCe1, DCe2, DDb0, DBc0, DBc1, DLa0, DDe0, DAlh0]
    by_cases hp : p.valid k
    · rw [decide_eq_true hp] at *
      have hmir : p.mir k = p.mirror k.W := by unfold Plan.mir; rw [if_pos hp]
      have M := mirrorPlanI_c k p hkl
      rw [hmir] at M
      have T1 := turnPiece_c q hq
      have hpm := (Plan.mirror_valid' hp).1
      have G3 := goodPlanI_c q.turn k (p.mirror k.W) (by simp [Piece.turn]; omega) hkl
      have e3 : decide ((p.mirror k.W).clean q.turn k) = d := by
        rw [← hd]
        by_cases hWH : k.W = q.W ∧ k.H = q.H
        · exact decide_eq_decide.2 (clean_turn hq hp hWH.1 hWH.2)
        · rw [decide_eq_false (fun h => hWH ⟨h.2.2.1, h.2.2.2.1⟩), decide_eq_false (fun h => hWH ⟨h.2.2.1, h.2.2.2.1⟩)]
      rw [e3] at G3
      have G4 := goodPlanI_c ⟨1, k.W, k.H, []⟩ k p (by simp) hkl
      have e4 : p.clean ⟨1, k.W, k.H, []⟩ k := ⟨⟨⟨by simp only []; omega, by simp only []; omega⟩, hk.1, hk.2.1, by simp, fun b hb => (by cases hb)⟩, hp, rfl, rfl, fun c _ f hf => (by cases hf)⟩
      rw [decide_eq_true e4] at G4
      refine acall_one V2 (by simp [freeL, AV.free, Plan.free, Work.free, Piece.free]) rfl ?_
      simp (disch := omega) only [SX0, SX1, SX2, SX3, SX4, SX5, SX6, SX7, SX8, SU0, SY0, SY1, Nat.reduceAdd, Nat.reduceMul, Nat.reduceSub, Nat.reduceLeDiff, Nat.reduceEqDiff, Nat.reduceLT, Nat.reduceBEq, ↓reduceIte, Int.reduceLE, Int.reduceLT, Int.reduceToNat, Int.reduceNeg, reduceCtorEq, Int.reduceEq, SF0, SF1, SF2, DPa0, DHb0, DHb1, DHa0, DCg0, DCe0, DCe1, DCe2, DDb0, DBc0, DBc1, DLa0, DDe0, DAlh0]
      refine awp_drawA T_tt mixed (by decide +kernel) (by kernel_rfl) (by kernel_rfl) ?_
      simp (disch := omega) only [SX0, SX1, SX2, SX3, SX4, SX5, SX6, SX7, SX8, SU0, SY0, SY1, Nat.reduceAdd, Nat.reduceMul, Nat.reduceSub, Nat.reduceLeDiff, Nat.reduceEqDiff, Nat.reduceLT, Nat.reduceBEq, ↓reduceIte, Int.reduceLE, Int.reduceLT, Int.reduceToNat, Int.reduceNeg, reduceCtorEq, Int.reduceEq, SF0, SF1, SF2, DPa0, DHb0, DHb1, DHa0, DCg0, DCe0, DCe1, DCe2, DDb0, DBc0, DBc1, DLa0, DDe0, DAlh0]
      refine qc_one T1 (by simp [freeL, AV.free, Plan.free, Work.free, Piece.free]) ?_
      simp (disch := omega) only [SX0, SX1, SX2, SX3, SX4, SX5, SX6, SX7, SX8, SU0, SY0, SY1, Nat.reduceAdd, Nat.reduceMul, Nat.reduceSub, Nat.reduceLeDiff, Nat.reduceEqDiff, Nat.reduceLT, Nat.reduceBEq, ↓reduceIte, Int.reduceLE, Int.reduceLT, Int.reduceToNat, Int.reduceNeg, reduceCtorEq, Int.reduceEq, SF0, SF1, SF2, DPa0, DHb0, DHb1, DHa0, DCg0, DCe0, DCe1, DCe2, DDb0, DBc0, DBc1, DLa0, DDe0, DAlh0]
      refine qc_one M (by simp [freeL, AV.free, Plan.free, Work.free, Piece.free]) ?_
      simp (disch := omega) only [SX0, SX1, SX2, SX3, SX4, SX5, SX6, SX7, SX8, SU0, SY0, SY1, Nat.reduceAdd, Nat.reduceMul, Nat.reduceSub, Nat.reduceLeDiff, Nat.reduceEqDiff, Nat.reduceLT, Nat.reduceBEq, ↓reduceIte, Int.reduceLE, Int.reduceLT, Int.reduceToNat, Int.reduceNeg, reduceCtorEq, Int.reduceEq, SF0, SF1, SF2, DPa0, DHb0, DHb1, DHa0, DCg0, DCe0, DCe1, DCe2, DDb0, DBc0, DBc1, DLa0, DDe0, DAlh0]
      refine qc_one G3 (by simp [freeL, AV.free, Plan.free, Work.free, Piece.free]) ?_
      simp (disch := omega) only [SX0, SX1, SX2, SX3, SX4, SX5, SX6, SX7, SX8, SU0, SY0, SY1, Nat.reduceAdd, Nat.reduceMul, Nat.reduceSub, Nat.reduceLeDiff, Nat.reduceEqDiff, Nat.reduceLT, Nat.reduceBEq, ↓reduceIte, Int.reduceLE, Int.reduceLT, Int.reduceToNat, Int.reduceNeg, reduceCtorEq, Int.reduceEq, SF0, SF1, SF2, DPa0, DHb0, DHb1, DHa0, DCg0, DCe0, DCe1, DCe2, DDb0, DBc0, DBc1, DLa0, DDe0, DAlh0, eq_self, decide_true]
      have G5 : ACalls Try.prog 54 [.agg [.val (.int .i64 1), .val (.int .i64 k.W), .val (.int .i64 k.H), .val (.slice none 0 0)], .agg k.cs, .agg p.cs] [] [] (fun r L => r = .val (.bool true) ∧ L = []) := by
        refine ACalls.nrmA ?_
        simp only [nrmL, AV.nrm, Work.nrmd2, Plan.nrmd2]
        exact G4
      refine qc_one G5 (by simp [freeL, AV.free, Plan.free, Work.free, Piece.free]) ?_
      simp (disch := omega) only [SX0, SX1, SX2, SX3, SX4, SX5, SX6, SX7, SX8, SU0, SY0, SY1, Nat.reduceAdd, Nat.reduceMul, Nat.reduceSub, Nat.reduceLeDiff, Nat.reduceEqDiff, Nat.reduceLT, Nat.reduceBEq, ↓reduceIte, Int.reduceLE, Int.reduceLT, Int.reduceToNat, Int.reduceNeg, reduceCtorEq, Int.reduceEq, SF0, SF1, SF2, DPa0, DHb0, DHb1, DHa0, DCg0, DCe0, DCe1, DCe2, DDb0, DBc0, DBc1, DLa0, DDe0, DAlh0]
      exact fin_val ⟨rfl, rfl⟩
    · rw [decide_eq_false hp] at *
      refine acall_one V2 (by simp [freeL, AV.free, Plan.free, Work.free, Piece.free]) rfl ?_
      simp (disch := omega) only [SX0, SX1, SX2, SX3, SX4, SX5, SX6, SX7, SX8, SU0, SY0, SY1, Nat.reduceAdd, Nat.reduceMul, Nat.reduceSub, Nat.reduceLeDiff, Nat.reduceEqDiff, Nat.reduceLT, Nat.reduceBEq, ↓reduceIte, Int.reduceLE, Int.reduceLT, Int.reduceToNat, Int.reduceNeg, reduceCtorEq, Int.reduceEq, SF0, SF1, SF2, DPa0, DHb0, DHb1, DHa0, DCg0, DCe0, DCe1, DCe2, DDb0, DBc0, DBc1, DLa0, DDe0, DAlh0]
      refine acall_one G2 (by simp [freeL, AV.free, Plan.free, Work.free, Piece.free]) rfl ?_
      simp (disch := omega) only [SX0, SX1, SX2, SX3, SX4, SX5, SX6, SX7, SX8, SU0, SY0, SY1, Nat.reduceAdd, Nat.reduceMul, Nat.reduceSub, Nat.reduceLeDiff, Nat.reduceEqDiff, Nat.reduceLT, Nat.reduceBEq, ↓reduceIte, Int.reduceLE, Int.reduceLT, Int.reduceToNat, Int.reduceNeg, reduceCtorEq, Int.reduceEq, SF0, SF1, SF2, DPa0, DHb0, DHb1, DHa0, DCg0, DCe0, DCe1, DCe2, DDb0, DBc0, DBc1, DLa0, DDe0, DAlh0, eq_self, decide_true]
      exact fin_val ⟨rfl, rfl⟩
  · rw [decide_eq_false hq] at *
    simp (disch := omega) only [SX0, SX1, SX2, SX3, SX4, SX5, SX6, SX7, SX8, SU0, SY0, SY1, Nat.reduceAdd, Nat.reduceMul, Nat.reduceSub, Nat.reduceLeDiff, Nat.reduceEqDiff, Nat.reduceLT, Nat.reduceBEq, ↓reduceIte, Int.reduceLE, Int.reduceLT, Int.reduceToNat, Int.reduceNeg, reduceCtorEq, Int.reduceEq, SF0, SF1, SF2, DPa0, DHb0, DHb1, DHa0, DCg0, DCe0, DCe1, DCe2, DDb0, DBc0, DBc1, DLa0, DDe0, DAlh0]
    refine acall_one G2 (by simp [freeL, AV.free, Plan.free, Work.free, Piece.free]) rfl ?_
    simp (disch := omega) only [SX0, SX1, SX2, SX3, SX4, SX5, SX6, SX7, SX8, SU0, SY0, SY1, Nat.reduceAdd, Nat.reduceMul, Nat.reduceSub, Nat.reduceLeDiff, Nat.reduceEqDiff, Nat.reduceLT, Nat.reduceBEq, ↓reduceIte, Int.reduceLE, Int.reduceLT, Int.reduceToNat, Int.reduceNeg, reduceCtorEq, Int.reduceEq, SF0, SF1, SF2, DPa0, DHb0, DHb1, DHa0, DCg0, DCe0, DCe1, DCe2, DDb0, DBc0, DBc1, DLa0, DDe0, DAlh0, eq_self, decide_true]
    exact fin_val ⟨rfl, rfl⟩

end Go.Pc
