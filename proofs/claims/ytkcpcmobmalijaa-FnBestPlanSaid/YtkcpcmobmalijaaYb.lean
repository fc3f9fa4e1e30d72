/- The table of best values. -/
import Derived.Test.YtkcpcmobmalijaaYa
set_option linter.unusedSimpArgs false
set_option linter.unusedVariables false
namespace Go.Pc
open Go Go.Proofs

/-- The table's cells. -/
def tabL (f : Nat → Nat → Int) : List AV := (List.range 289).map fun (j : Nat) => .val (.int .i64 (f (j / 17) (j % 17)))
theorem tabL_len (f : Nat → Nat → Int) : (tabL f).length = 289 := by simp [tabL]
theorem tabL_zero : List.replicate 289 (AV.val (.int .i64 0)) = tabL (fun _ _ => 0) := by
  refine List.ext_getElem? fun i => ?_
  simp only [tabL, List.getElem?_map, List.getElem?_replicate]
  by_cases h : i < 289
  · rw [List.getElem?_range h, if_pos h]; rfl
  · rw [List.getElem?_eq_none (by simp; omega), if_neg h]; rfl
theorem tabL_get {f : Nat → Nat → Int} {w h : Nat} (hw : w < 17) (hh : h < 17) : (tabL f)[w * 17 + h]? = some (.val (.int .i64 (f w h))) := by
  simp only [tabL, List.getElem?_map, List.getElem?_range (show w * 17 + h < 289 by omega), Option.map_some]
  rw [show (w * 17 + h) / 17 = w by omega, show (w * 17 + h) % 17 = h by omega]
def upd (f : Nat → Nat → Int) (w h : Nat) (m : Int) (a b : Nat) : Int := if a = w ∧ b = h then m else f a b
theorem tabL_put {f : Nat → Nat → Int} {w h : Nat} (hw : w < 17) (hh : h < 17) (m : Int) : (tabL f).take (w * 17 + h) ++ .val (.int .i64 m) :: (tabL f).drop (w * 17 + h + 1) = tabL (upd f w h m) := by
  have e : (tabL f).set (w * 17 + h) (.val (.int .i64 m)) = tabL (upd f w h m) := by
    refine List.ext_getElem? fun i => ?_
    by_cases hi : i < 289
    · rw [List.getElem?_set, tabL_len]
      simp only [tabL, List.getElem?_map, List.getElem?_range hi, Option.map_some, upd]
      by_cases e : w * 17 + h = i
      · rw [if_pos e, if_pos (by omega), if_pos (by omega)]
      · rw [if_neg e, if_neg (by omega)]
    · rw [List.getElem?_eq_none (by rw [List.length_set, tabL_len]; omega), List.getElem?_eq_none (by rw [tabL_len]; omega)]
  rw [← e, List.set_eq_take_append_cons_drop, if_pos (by rw [tabL_len]; omega)]
theorem tabL_under (f : Nat → Nat → Int) (m : Nat) : underL m (tabL f) = true := by
  unfold tabL
  generalize List.range 289 = l
  induction l with
  | nil => rfl
  | cons x l ih => simp only [List.map_cons, underL, ih, AV.under]; rfl
theorem tabL_free (f : Nat → Nat → Int) : freeL (tabL f) = true := by
  unfold tabL
  generalize List.range 289 = l
  induction l with
  | nil => rfl
  | cons x l ih => simp only [List.map_cons, freeL, ih, AV.free]; rfl

theorem tabL_filtd (p : Nat → Bool) (f : Nat → Nat → Int) : filtL p (tabL f) = tabL f := (free_filt_aux p).2 _ (tabL_free f)
theorem tabL_rend (p : Nat → Nat) (f : Nat → Nat → Int) : renL p (tabL f) = tabL f := freeL_rend p (tabL_free f)
theorem tabL_take (f : Nat → Nat → Int) : (tabL f).take 289 = tabL f := List.take_of_length_le (by rw [tabL_len]; exact Nat.le_refl _)
theorem tabL_all (f : Nat → Nat → Int) : (tabL f).all AV.one = true ∧ (tabL f).all AV.pure = true := by
  unfold tabL
  generalize List.range 289 = l
  induction l with
  | nil => exact ⟨rfl, rfl⟩
  | cons x l ih => simp only [List.map_cons, List.all_cons, ih.1, ih.2]; exact ⟨rfl, rfl⟩
theorem tabL_one (f : Nat → Nat → Int) : (tabL f).all AV.one = true := (tabL_all f).1
theorem tabL_pure (f : Nat → Nat → Int) : (tabL f).all AV.pure = true := (tabL_all f).2
theorem tabL_app (f g : Nat → Nat → Int) : tabL f ++ (tabL g).drop 289 = tabL f := by rw [List.drop_of_length_le (by rw [tabL_len]; exact Nat.le_refl _), List.append_nil]
theorem DYb0 : type_of% @tabL_app ∧ type_of% @tabL_filtd ∧ type_of% @tabL_rend ∧ type_of% @tabL_len ∧ type_of% @tabL_take ∧ type_of% @tabL_one ∧ type_of% @tabL_pure := ⟨@tabL_app, @tabL_filtd, @tabL_rend, @tabL_len, @tabL_take, @tabL_one, @tabL_pure⟩

/-- A value that is not less than what cuts give. -/
def cutUp (f : Nat → Nat → Int) (w h : Nat) (m : Int) : Prop := (∀ c, 1 ≤ c → c ≤ w / 2 → f c h + f (w - c) h ≤ m) ∧ ∀ c, 1 ≤ c → c ≤ h / 2 → f w c + f w (h - c) ≤ m
def tabUp (k : Work) (vs : List Int) (f : Nat → Nat → Int) (w h : Nat) : Prop := leafUp k vs w h (f w h) ∧ cutUp f w h (f w h)
def tabB (f : Nat → Nat → Int) : Prop := ∀ a b, 0 ≤ f a b ∧ f a b ≤ 1000 * ((a * b : Nat) : Int)
theorem tabB_zero : tabB fun _ _ => 0 := fun a b => ⟨Int.le_refl _, by simp only []; omega⟩
theorem tabB.small {f : Nat → Nat → Int} (h : tabB f) {a b : Nat} (ha : a ≤ 16) (hb : b ≤ 16) : 0 ≤ f a b ∧ f a b ≤ 256000 := by
  have h1 := h a b
  have h2 : a * b ≤ 16 * 16 := Nat.mul_le_mul ha hb
  omega
theorem tabB.add {f : Nat → Nat → Int} (h : tabB f) {c w b : Nat} (hc : c ≤ w) : f c b + f (w - c) b ≤ 1000 * ((w * b : Nat) : Int) := by
  have h1 := h c b
  have h2 := h (w - c) b
  have h3 : c * b + (w - c) * b = w * b := by rw [← Nat.add_mul]; congr 1; omega
  omega
theorem tabB.add' {f : Nat → Nat → Int} (h : tabB f) {c w b : Nat} (hc : c ≤ b) : f w c + f w (b - c) ≤ 1000 * ((w * b : Nat) : Int) := by
  have h1 := h w c
  have h2 := h w (b - c)
  have h3 : w * c + w * (b - c) = w * b := by rw [← Nat.mul_add]; congr 1; omega
  omega
theorem tabB.upd {f : Nat → Nat → Int} (h : tabB f) {w b : Nat} {m : Int} (h0 : 0 ≤ m) (hm : m ≤ 1000 * ((w * b : Nat) : Int)) : tabB (upd f w b m) := fun x y => by
  unfold Pc.upd
  split
  · rename_i e; rw [e.1, e.2]; exact ⟨h0, hm⟩
  · exact h x y
theorem tabUp.upd {k : Work} {vs : List Int} {f : Nat → Nat → Int} {w h a b : Nat} {m : Int} (hu : tabUp k vs f a b) (ho : a < w ∨ a = w ∧ b < h) (hb : 1 ≤ b) : tabUp k vs (upd f w h m) a b := by
  have e : ∀ x y, (x < w ∨ x = w ∧ y < h) → Pc.upd f w h m x y = f x y := fun x y hxy => by unfold Pc.upd; exact if_neg fun hh => by omega
  obtain ⟨h1, h2, h3⟩ := hu
  unfold tabUp
  rw [e a b ho]
  refine ⟨h1, fun c c1 c2 => ?_, fun c c1 c2 => ?_⟩
  · rw [e c b (by omega), e (a - c) b (by omega)]; exact h2 c c1 c2
  · rw [e a c (by omega), e a (b - c) (by omega)]; exact h3 c c1 c2
theorem tabUp.new {k : Work} {vs : List Int} {f : Nat → Nat → Int} {w h : Nat} {m : Int} (h1 : leafUp k vs w h m) (h2 : cutUp f w h m) : tabUp k vs (Pc.upd f w h m) w h := by
  have e : ∀ x y, ¬ (x = w ∧ y = h) → Pc.upd f w h m x y = f x y := fun x y hxy => by unfold Pc.upd; exact if_neg hxy
  have e1 : Pc.upd f w h m w h = m := by unfold Pc.upd; exact if_pos ⟨rfl, rfl⟩
  unfold tabUp
  rw [e1]
  refine ⟨h1, fun c c1 c2 => ?_, fun c c1 c2 => ?_⟩
  · rw [e c h (by omega), e (w - c) h (by omega)]; exact h2.1 c c1 c2
  · rw [e w c (by omega), e w (h - c) (by omega)]; exact h2.2 c c1 c2

theorem e_valuesOfI : Enters Try.prog 61 := enters_of Try.func61 (by kernel_rfl) (by kernel_rfl)
set_option maxRecDepth 16000 in
set_option maxHeartbeats 8000000 in
theorem valuesOfI_c (k : Work) (vs : List Int) (W H : Nat) (hv : fineV vs) (hW : k.W = W) (hH : k.H = H) (hW16 : W ≤ 16) (hH16 : H ≤ 16) : ACalls Try.prog 61 [.agg k.cs, .sl (ints vs)] [] [] (fun r L => ∃ f, r = .agg (tabL f) ∧ L = [] ∧ tabB f ∧ ∀ a b, 1 ≤ a → a ≤ W → 1 ≤ b → b ≤ H → tabUp k vs f a b) := by
  refine acalls_tm T_tt Try.func61 rfl e_valuesOfI 78 rfl (W8 _ _ .any .any .any .any .any .any (W8 .any .any .any .any .any .any .any .any (W8 .any .any .any .any .any .any .any .any (W8 .any .any .any .any .any .any .any .any (W8 .any .any .any .any .any .any .any .any (W8 .any .any .any .any .any .any .any .any (W8 .any .any .any .any .any .any .any .any (W8 .any .any .any .any .any .any .any .any (W8 .any .any .any .any .any .any .any .any (W8 .any .any .any .any .any .any .any .any [])))))))))) rfl (rv := [.cell 4 81]) rfl (sx_sound (bl := []) T_tt _ _ _ ?_)
  have hz : List.map AV.val (List.replicate 289 (Value.int .i64 0)) = tabL fun _ _ => 0 := by rw [List.map_replicate, tabL_zero]
  simp (disch := omega) only [SX0, SX1, SX2, SX3, SX4, SX5, SX6, SX7, SX8, SU0, SY0, SY1, Nat.reduceAdd, Nat.reduceMul, Nat.reduceSub, Nat.reduceLeDiff, Nat.reduceEqDiff, Nat.reduceLT, Nat.reduceBEq, ↓reduceIte, Int.reduceLE, Int.reduceLT, Int.reduceToNat, Int.reduceNeg, reduceCtorEq, Int.reduceEq, SF0, SF1, SF2, DHb0, DHb1, DHa0, DCg0, DCe0, DCe1, DCe2, DDb0, DBc0, DBc1, DDe0, DKa0, DYb0]
  with_reducible refine awp_loop_h (G := Nat × (Nat → Nat → Int)) 7 73 (fun g => [(6, .val (.int .i64 g.1))]) (fun g => [.cells k.cs, .cells (tabL fun _ _ => 0), .cells (tabL g.2)]) (fun g => 1 ≤ g.1 ∧ g.1 ≤ W + 1 ∧ tabB g.2 ∧ ∀ a b, 1 ≤ a → a < g.1 → 1 ≤ b → b ≤ H → tabUp k vs g.2 a b) (fun g => W + 1 - g.1) (1, fun _ _ => 0) ⟨by simp, by simp, tabB_zero, fun a b h1 h2 => by simp only [] at h2; omega⟩ ?_ (fun g hg => ?_)
  · simp (disch := omega) only [SX0, SX1, SX2, SX3, SX4, SX5, SX6, SX7, SX8, SU0, SY0, SY1, Nat.reduceAdd, Nat.reduceMul, Nat.reduceSub, Nat.reduceLeDiff, Nat.reduceEqDiff, Nat.reduceLT, Nat.reduceBEq, ↓reduceIte, Int.reduceLE, Int.reduceLT, Int.reduceToNat, Int.reduceNeg, reduceCtorEq, Int.reduceEq, SF0, SF1, SF2, DHb0, DHb1, DHa0, DCg0, DCe0, DCe1, DCe2, DDb0, DBc0, DBc1, DDe0, DKa0, DYb0]
    simp only [hz]
    (refine wk_le ?_ ?_ ?_; (focus (simp [W8, leTm, leAV, AV.under, underL, Work.under, tabL_under]; done)); (focus (simp [leL, OB.under, underL, AV.under, Work.under, tabL_under]; done)); (focus (simp; done)))
  obtain ⟨w, f⟩ := g
  simp only at hg
  obtain ⟨g1, g2, g3, g4⟩ := hg
  refine sx_sound (bl := []) T_tt _ _ _ ?_
  simp (disch := omega) only [SX0, SX1, SX2, SX3, SX4, SX5, SX6, SX7, SX8, SU0, SY0, SY1, Nat.reduceAdd, Nat.reduceMul, Nat.reduceSub, Nat.reduceLeDiff, Nat.reduceEqDiff, Nat.reduceLT, Nat.reduceBEq, ↓reduceIte, Int.reduceLE, Int.reduceLT, Int.reduceToNat, Int.reduceNeg, reduceCtorEq, Int.reduceEq, SF0, SF1, SF2, DHb0, DHb1, DHa0, DCg0, DCe0, DCe1, DCe2, DDb0, DBc0, DBc1, DDe0, DKa0, DYb0, hW]
  refine br_dec (fun h1 => ?_) (fun h1 => ?_)
  · simp (disch := omega) only [SX0, SX1, SX2, SX3, SX4, SX5, SX6, SX7, SX8, SU0, SY0, SY1, Nat.reduceAdd, Nat.reduceMul, Nat.reduceSub, Nat.reduceLeDiff, Nat.reduceEqDiff, Nat.reduceLT, Nat.reduceBEq, ↓reduceIte, Int.reduceLE, Int.reduceLT, Int.reduceToNat, Int.reduceNeg, reduceCtorEq, Int.reduceEq, SF0, SF1, SF2, DHb0, DHb1, DHa0, DCg0, DCe0, DCe1, DCe2, DDb0, DBc0, DBc1, DDe0, DKa0, DYb0]
    with_reducible refine awp_loop_h (G := Nat × (Nat → Nat → Int)) 8 72 (fun g => [(7, .val (.int .i64 g.1))]) (fun g => [.cells k.cs, .cells (tabL fun _ _ => 0), .cells (tabL g.2)]) (fun g => 1 ≤ g.1 ∧ g.1 ≤ H + 1 ∧ tabB g.2 ∧ ∀ a b, 1 ≤ a → (a < w ∨ a = w ∧ b < g.1) → 1 ≤ b → b ≤ H → tabUp k vs g.2 a b) (fun g => H + 1 - g.1) (1, f) ⟨by simp, by simp, g3, fun a b h1 h2 => by simp only [] at h2; intro h3 h4; exact g4 a b h1 (by omega) h3 h4⟩ ?_ (fun g hg => ?_)
    · simp (disch := omega) only [SX0, SX1, SX2, SX3, SX4, SX5, SX6, SX7, SX8, SU0, SY0, SY1, Nat.reduceAdd, Nat.reduceMul, Nat.reduceSub, Nat.reduceLeDiff, Nat.reduceEqDiff, Nat.reduceLT, Nat.reduceBEq, ↓reduceIte, Int.reduceLE, Int.reduceLT, Int.reduceToNat, Int.reduceNeg, reduceCtorEq, Int.reduceEq, SF0, SF1, SF2, DHb0, DHb1, DHa0, DCg0, DCe0, DCe1, DCe2, DDb0, DBc0, DBc1, DDe0, DKa0, DYb0]
      (refine wk_le ?_ ?_ ?_; (focus (simp [W8, leTm, leAV, AV.under, underL, Work.under, tabL_under]; done)); (focus (simp [leL, OB.under, underL, AV.under, Work.under, tabL_under]; done)); (focus (simp; done)))
    obtain ⟨h, f⟩ := g
    simp only at hg
    obtain ⟨j1, j2, j3, j4⟩ := hg
    refine sx_sound (bl := []) T_tt _ _ _ ?_
    simp (disch := omega) only [SX0, SX1, SX2, SX3, SX4, SX5, SX6, SX7, SX8, SU0, SY0, SY1, Nat.reduceAdd, Nat.reduceMul, Nat.reduceSub, Nat.reduceLeDiff, Nat.reduceEqDiff, Nat.reduceLT, Nat.reduceBEq, ↓reduceIte, Int.reduceLE, Int.reduceLT, Int.reduceToNat, Int.reduceNeg, reduceCtorEq, Int.reduceEq, SF0, SF1, SF2, DHb0, DHb1, DHa0, DCg0, DCe0, DCe1, DCe2, DDb0, DBc0, DBc1, DDe0, DKa0, DYb0, hH]
    refine br_dec (fun h2 => ?_) (fun h2 => ?_)
    · simp (disch := omega) only [SX0, SX1, SX2, SX3, SX4, SX5, SX6, SX7, SX8, SU0, SY0, SY1, Nat.reduceAdd, Nat.reduceMul, Nat.reduceSub, Nat.reduceLeDiff, Nat.reduceEqDiff, Nat.reduceLT, Nat.reduceBEq, ↓reduceIte, Int.reduceLE, Int.reduceLT, Int.reduceToNat, Int.reduceNeg, reduceCtorEq, Int.reduceEq, SF0, SF1, SF2, DHb0, DHb1, DHa0, DCg0, DCe0, DCe1, DCe2, DDb0, DBc0, DBc1, DDe0, DKa0, DYb0]
      refine acall_own (bestPaneI_c k vs w h hv) [] [] (by simp only [SX0, SX1, SX2, SX3, SX4, SX5, SX6, SX7, SX8, SU0, SY0, SY1, Nat.reduceAdd, Nat.reduceMul, Nat.reduceSub, Nat.reduceLeDiff, Nat.reduceEqDiff, Nat.reduceLT, Nat.reduceBEq, ↓reduceIte, Int.reduceLE, Int.reduceLT, Int.reduceToNat, Int.reduceNeg, reduceCtorEq, Int.reduceEq, SF0, SF1, SF2, DHb0, DHb1, DHa0, DCg0, DCe0, DCe1, DCe2, DDb0, DBc0, DBc1, DDe0, DKa0, DYb0, SX0]) (by decide) (by decide) (by rfl) (by simp only [SX0, SX1, SX2, SX3, SX4, SX5, SX6, SX7, SX8, SU0, SY0, SY1, Nat.reduceAdd, Nat.reduceMul, Nat.reduceSub, Nat.reduceLeDiff, Nat.reduceEqDiff, Nat.reduceLT, Nat.reduceBEq, ↓reduceIte, Int.reduceLE, Int.reduceLT, Int.reduceToNat, Int.reduceNeg, reduceCtorEq, Int.reduceEq, SF0, SF1, SF2, DHb0, DHb1, DHa0, DCg0, DCe0, DCe1, DCe2, DDb0, DBc0, DBc1, DDe0, DKa0, DYb0, SX0]) ?_
      rintro _ _ ⟨q, m, rfl, rfl, hm, hlu⟩
      have hm2 : m ≤ 1000 * ((w * h : Nat) : Int) := by
        have : 1 ≤ w * h := Nat.mul_pos g1 j1
        omega
      have q2w : Int.tdiv (w : Int) 2 = ((w / 2 : Nat) : Int) := rfl
      have q2h : Int.tdiv (h : Int) 2 = ((h / 2 : Nat) : Int) := rfl
      simp (disch := omega) only [SX0, SX1, SX2, SX3, SX4, SX5, SX6, SX7, SX8, SU0, SY0, SY1, Nat.reduceAdd, Nat.reduceMul, Nat.reduceSub, Nat.reduceLeDiff, Nat.reduceEqDiff, Nat.reduceLT, Nat.reduceBEq, ↓reduceIte, Int.reduceLE, Int.reduceLT, Int.reduceToNat, Int.reduceNeg, reduceCtorEq, Int.reduceEq, SF0, SF1, SF2, DHb0, DHb1, DHa0, DCg0, DCe0, DCe1, DCe2, DDb0, DBc0, DBc1, DDe0, DKa0, DYb0]
      with_reducible refine awp_loop_h (G := Nat × Int) 11 69 (fun g => [(8, .any), (9, .val (.int .i64 g.2)), (10, .val (.int .i64 g.1))]) (fun g => [.cells k.cs, .cells (tabL fun _ _ => 0), .cells (tabL f)]) (fun g => 1 ≤ g.1 ∧ g.1 ≤ w / 2 + 1 ∧ m ≤ g.2 ∧ g.2 ≤ 1000 * ((w * h : Nat) : Int) ∧ ∀ c, 1 ≤ c → c < g.1 → f c h + f (w - c) h ≤ g.2) (fun g => w / 2 + 1 - g.1) (1, m) ⟨by simp, by simp, by simp, hm2, fun c h1 h2 => by simp only [] at h2; omega⟩ ?_ (fun g hg => ?_)
      · simp (disch := omega) only [SX0, SX1, SX2, SX3, SX4, SX5, SX6, SX7, SX8, SU0, SY0, SY1, Nat.reduceAdd, Nat.reduceMul, Nat.reduceSub, Nat.reduceLeDiff, Nat.reduceEqDiff, Nat.reduceLT, Nat.reduceBEq, ↓reduceIte, Int.reduceLE, Int.reduceLT, Int.reduceToNat, Int.reduceNeg, reduceCtorEq, Int.reduceEq, SF0, SF1, SF2, DHb0, DHb1, DHa0, DCg0, DCe0, DCe1, DCe2, DDb0, DBc0, DBc1, DDe0, DKa0, DYb0]
        (refine wk_le ?_ ?_ ?_; (focus (simp [W8, leTm, leAV, AV.under, underL, Work.under, tabL_under, Plan.under]; done)); (focus (simp [leL, OB.under, underL, AV.under, Work.under, tabL_under, Plan.under]; done)); (focus (simp; done)))
      obtain ⟨at_, m1⟩ := g
      simp only at hg
      obtain ⟨i1, i2, i3, i4, i5⟩ := hg
      have hwh : w * h ≤ 16 * 16 := Nat.mul_le_mul (by omega) (by omega)
      refine sx_sound (bl := []) T_tt _ _ _ ?_
      simp (disch := omega) only [SX0, SX1, SX2, SX3, SX4, SX5, SX6, SX7, SX8, SU0, SY0, SY1, Nat.reduceAdd, Nat.reduceMul, Nat.reduceSub, Nat.reduceLeDiff, Nat.reduceEqDiff, Nat.reduceLT, Nat.reduceBEq, ↓reduceIte, Int.reduceLE, Int.reduceLT, Int.reduceToNat, Int.reduceNeg, reduceCtorEq, Int.reduceEq, SF0, SF1, SF2, DHb0, DHb1, DHa0, DCg0, DCe0, DCe1, DCe2, DDb0, DBc0, DBc1, DDe0, DKa0, DYb0, q2w]
      refine br_dec (fun h3 => ?_) (fun h3 => ?_)
      · have e1 : (w : Int) - at_ = ((w - at_ : Nat) : Int) := by omega
        have t1 := tabL_get (f := f) (w := at_) (h := h) (by omega) (by omega)
        have t2 := tabL_get (f := f) (w := w - at_) (h := h) (by omega) (by omega)
        have s1 := j3.small (a := at_) (b := h) (by omega) (by omega)
        have s2 := j3.small (a := w - at_) (b := h) (by omega) (by omega)
        have s3 := j3.add (c := at_) (w := w) (b := h) (by omega)
        simp (disch := omega) only [SX0, SX1, SX2, SX3, SX4, SX5, SX6, SX7, SX8, SU0, SY0, SY1, Nat.reduceAdd, Nat.reduceMul, Nat.reduceSub, Nat.reduceLeDiff, Nat.reduceEqDiff, Nat.reduceLT, Nat.reduceBEq, ↓reduceIte, Int.reduceLE, Int.reduceLT, Int.reduceToNat, Int.reduceNeg, reduceCtorEq, Int.reduceEq, SF0, SF1, SF2, DHb0, DHb1, DHa0, DCg0, DCe0, DCe1, DCe2, DDb0, DBc0, DBc1, DDe0, DKa0, DYb0]
        refine awp_drawA T_tt mixed (by decide +kernel) (by kernel_rfl) (by kernel_rfl) ?_
        repeat' first | simp (disch := omega) only [SX0, SX1, SX2, SX3, SX4, SX5, SX6, SX7, SX8, SU0, SY0, SY1, Nat.reduceAdd, Nat.reduceMul, Nat.reduceSub, Nat.reduceLeDiff, Nat.reduceEqDiff, Nat.reduceLT, Nat.reduceBEq, ↓reduceIte, Int.reduceLE, Int.reduceLT, Int.reduceToNat, Int.reduceNeg, reduceCtorEq, Int.reduceEq, SF0, SF1, SF2, DHb0, DHb1, DHa0, DCg0, DCe0, DCe1, DCe2, DDb0, DBc0, DBc1, DDe0, DKa0, DYb0, e1, t1, t2] | refine req (by omega) ?_
        refine ⟨(at_ + 1, max m1 (f at_ h + f (w - at_) h)), ⟨by simp only []; omega, by simp only []; omega, by simp only []; omega, by simp only []; omega, fun c c1 c2 => ?_⟩, by simp only []; omega, ?_⟩
        · by_cases e : c = at_
          · subst e; exact Int.le_max_right _ _
          · exact Int.le_trans (i5 c c1 (by simp only [] at c2; omega)) (Int.le_max_left _ _)
        (refine wk_le ?_ ?_ ?_; (focus (simp [W8, leTm, leAV, AV.under, underL, Work.under, tabL_under]; done)); (focus (simp [leL, OB.under, underL, AV.under, Work.under, tabL_under]; done)); (focus (simp; done)))
      clear i1
      simp (disch := omega) only [SX0, SX1, SX2, SX3, SX4, SX5, SX6, SX7, SX8, SU0, SY0, SY1, Nat.reduceAdd, Nat.reduceMul, Nat.reduceSub, Nat.reduceLeDiff, Nat.reduceEqDiff, Nat.reduceLT, Nat.reduceBEq, ↓reduceIte, Int.reduceLE, Int.reduceLT, Int.reduceToNat, Int.reduceNeg, reduceCtorEq, Int.reduceEq, SF0, SF1, SF2, DHb0, DHb1, DHa0, DCg0, DCe0, DCe1, DCe2, DDb0, DBc0, DBc1, DDe0, DKa0, DYb0]
      with_reducible refine awp_loop_h (G := Nat × Int) 12 68 (fun g => [(9, .val (.int .i64 g.2)), (10, .any), (11, .val (.int .i64 g.1))]) (fun g => [.cells k.cs, .cells (tabL fun _ _ => 0), .cells (tabL f)]) (fun g => 1 ≤ g.1 ∧ g.1 ≤ h / 2 + 1 ∧ m1 ≤ g.2 ∧ g.2 ≤ 1000 * ((w * h : Nat) : Int) ∧ ∀ c, 1 ≤ c → c < g.1 → f w c + f w (h - c) ≤ g.2) (fun g => h / 2 + 1 - g.1) (1, m1) ⟨by simp, by simp, by simp, i4, fun c h1 h2 => by simp only [] at h2; omega⟩ ?_ (fun g hg => ?_)
      · simp (disch := omega) only [SX0, SX1, SX2, SX3, SX4, SX5, SX6, SX7, SX8, SU0, SY0, SY1, Nat.reduceAdd, Nat.reduceMul, Nat.reduceSub, Nat.reduceLeDiff, Nat.reduceEqDiff, Nat.reduceLT, Nat.reduceBEq, ↓reduceIte, Int.reduceLE, Int.reduceLT, Int.reduceToNat, Int.reduceNeg, reduceCtorEq, Int.reduceEq, SF0, SF1, SF2, DHb0, DHb1, DHa0, DCg0, DCe0, DCe1, DCe2, DDb0, DBc0, DBc1, DDe0, DKa0, DYb0]
        (refine wk_le ?_ ?_ ?_; (focus (simp [W8, leTm, leAV, AV.under, underL, Work.under, tabL_under]; done)); (focus (simp [leL, OB.under, underL, AV.under, Work.under, tabL_under]; done)); (focus (simp; done)))
      obtain ⟨at2, m2⟩ := g
      simp only at hg
      obtain ⟨k1, k2, k3, k4, k5⟩ := hg
      refine sx_sound (bl := []) T_tt _ _ _ ?_
      simp (disch := omega) only [SX0, SX1, SX2, SX3, SX4, SX5, SX6, SX7, SX8, SU0, SY0, SY1, Nat.reduceAdd, Nat.reduceMul, Nat.reduceSub, Nat.reduceLeDiff, Nat.reduceEqDiff, Nat.reduceLT, Nat.reduceBEq, ↓reduceIte, Int.reduceLE, Int.reduceLT, Int.reduceToNat, Int.reduceNeg, reduceCtorEq, Int.reduceEq, SF0, SF1, SF2, DHb0, DHb1, DHa0, DCg0, DCe0, DCe1, DCe2, DDb0, DBc0, DBc1, DDe0, DKa0, DYb0, q2h]
      refine br_dec (fun h4 => ?_) (fun h4 => ?_)
      · have e1 : (h : Int) - at2 = ((h - at2 : Nat) : Int) := by omega
        have t1 := tabL_get (f := f) (w := w) (h := at2) (by omega) (by omega)
        have t2 := tabL_get (f := f) (w := w) (h := h - at2) (by omega) (by omega)
        have s1 := j3.small (a := w) (b := at2) (by omega) (by omega)
        have s2 := j3.small (a := w) (b := h - at2) (by omega) (by omega)
        have s3 := j3.add' (c := at2) (w := w) (b := h) (by omega)
        simp (disch := omega) only [SX0, SX1, SX2, SX3, SX4, SX5, SX6, SX7, SX8, SU0, SY0, SY1, Nat.reduceAdd, Nat.reduceMul, Nat.reduceSub, Nat.reduceLeDiff, Nat.reduceEqDiff, Nat.reduceLT, Nat.reduceBEq, ↓reduceIte, Int.reduceLE, Int.reduceLT, Int.reduceToNat, Int.reduceNeg, reduceCtorEq, Int.reduceEq, SF0, SF1, SF2, DHb0, DHb1, DHa0, DCg0, DCe0, DCe1, DCe2, DDb0, DBc0, DBc1, DDe0, DKa0, DYb0]
        refine awp_drawA T_tt mixed (by decide +kernel) (by kernel_rfl) (by kernel_rfl) ?_
        repeat' first | simp (disch := omega) only [SX0, SX1, SX2, SX3, SX4, SX5, SX6, SX7, SX8, SU0, SY0, SY1, Nat.reduceAdd, Nat.reduceMul, Nat.reduceSub, Nat.reduceLeDiff, Nat.reduceEqDiff, Nat.reduceLT, Nat.reduceBEq, ↓reduceIte, Int.reduceLE, Int.reduceLT, Int.reduceToNat, Int.reduceNeg, reduceCtorEq, Int.reduceEq, SF0, SF1, SF2, DHb0, DHb1, DHa0, DCg0, DCe0, DCe1, DCe2, DDb0, DBc0, DBc1, DDe0, DKa0, DYb0, e1, t1, t2] | refine req (by omega) ?_
        refine ⟨(at2 + 1, max m2 (f w at2 + f w (h - at2))), ⟨by simp only []; omega, by simp only []; omega, by simp only []; omega, by simp only []; omega, fun c c1 c2 => ?_⟩, by simp only []; omega, ?_⟩
        · by_cases e : c = at2
          · subst e; exact Int.le_max_right _ _
          · exact Int.le_trans (k5 c c1 (by simp only [] at c2; omega)) (Int.le_max_left _ _)
        (refine wk_le ?_ ?_ ?_; (focus (simp [W8, leTm, leAV, AV.under, underL, Work.under, tabL_under]; done)); (focus (simp [leL, OB.under, underL, AV.under, Work.under, tabL_under]; done)); (focus (simp; done)))
      have hp := tabL_put (f := f) (w := w) (h := h) (by omega) (by omega) m2
      have hlu2 : leafUp k vs w h m2 := fun i tu v hv hf => by have := hlu i tu v hv hf; omega
      have hcu : cutUp f w h m2 := ⟨fun c c1 c2 => by have := i5 c c1 (by omega); omega, fun c c1 c2 => k5 c c1 (by omega)⟩
      simp (disch := omega) only [SX0, SX1, SX2, SX3, SX4, SX5, SX6, SX7, SX8, SU0, SY0, SY1, Nat.reduceAdd, Nat.reduceMul, Nat.reduceSub, Nat.reduceLeDiff, Nat.reduceEqDiff, Nat.reduceLT, Nat.reduceBEq, ↓reduceIte, Int.reduceLE, Int.reduceLT, Int.reduceToNat, Int.reduceNeg, reduceCtorEq, Int.reduceEq, SF0, SF1, SF2, DHb0, DHb1, DHa0, DCg0, DCe0, DCe1, DCe2, DDb0, DBc0, DBc1, DDe0, DKa0, DYb0]
      repeat' first | simp (disch := omega) only [SX0, SX1, SX2, SX3, SX4, SX5, SX6, SX7, SX8, SU0, SY0, SY1, Nat.reduceAdd, Nat.reduceMul, Nat.reduceSub, Nat.reduceLeDiff, Nat.reduceEqDiff, Nat.reduceLT, Nat.reduceBEq, ↓reduceIte, Int.reduceLE, Int.reduceLT, Int.reduceToNat, Int.reduceNeg, reduceCtorEq, Int.reduceEq, SF0, SF1, SF2, DHb0, DHb1, DHa0, DCg0, DCe0, DCe1, DCe2, DDb0, DBc0, DBc1, DDe0, DKa0, DYb0, hp] | refine req (by omega) ?_ | refine req (by rw [tabL_len]; omega) ?_
      refine ⟨(h + 1, upd f w h m2), ⟨by simp only []; omega, by simp only []; omega, j3.upd (by omega) k4, fun a b a1 a2 b1 b2 => ?_⟩, by simp only []; omega, ?_⟩
      · simp only [] at a2
        by_cases e : a = w ∧ b = h
        · rw [e.1, e.2]; exact tabUp.new hlu2 hcu
        · exact (j4 a b a1 (by omega) b1 b2).upd (by omega) b1
      (refine wk_le ?_ ?_ ?_; (focus (simp [W8, leTm, leAV, AV.under, underL, Work.under, tabL_under, hp]; done)); (focus (simp [leL, OB.under, underL, AV.under, Work.under, tabL_under, hp]; done)); (focus (simp; done)))
    · simp (disch := omega) only [SX0, SX1, SX2, SX3, SX4, SX5, SX6, SX7, SX8, SU0, SY0, SY1, Nat.reduceAdd, Nat.reduceMul, Nat.reduceSub, Nat.reduceLeDiff, Nat.reduceEqDiff, Nat.reduceLT, Nat.reduceBEq, ↓reduceIte, Int.reduceLE, Int.reduceLT, Int.reduceToNat, Int.reduceNeg, reduceCtorEq, Int.reduceEq, SF0, SF1, SF2, DHb0, DHb1, DHa0, DCg0, DCe0, DCe1, DCe2, DDb0, DBc0, DBc1, DDe0, DKa0, DYb0]
      refine ⟨(w + 1, f), ⟨by simp only []; omega, by simp only []; omega, j3, fun a b a1 a2 b1 b2 => j4 a b a1 (by simp only [] at a2; omega) b1 b2⟩, by simp only []; omega, ?_⟩
      (refine wk_le ?_ ?_ ?_; (focus (simp [W8, leTm, leAV, AV.under, underL, Work.under, tabL_under]; done)); (focus (simp [leL, OB.under, underL, AV.under, Work.under, tabL_under]; done)); (focus (simp; done)))
  · simp (disch := omega) only [SX0, SX1, SX2, SX3, SX4, SX5, SX6, SX7, SX8, SU0, SY0, SY1, Nat.reduceAdd, Nat.reduceMul, Nat.reduceSub, Nat.reduceLeDiff, Nat.reduceEqDiff, Nat.reduceLT, Nat.reduceBEq, ↓reduceIte, Int.reduceLE, Int.reduceLT, Int.reduceToNat, Int.reduceNeg, reduceCtorEq, Int.reduceEq, SF0, SF1, SF2, DHb0, DHb1, DHa0, DCg0, DCe0, DCe1, DCe2, DDb0, DBc0, DBc1, DDe0, DKa0, DYb0]
    exact fin_free (by simp [AV.free, tabL_free]) ⟨f, rfl, rfl, g3, fun a b a1 a2 b1 b2 => g4 a b a1 (by omega) b1 b2⟩

end Go.Pc
