/- Two steps exchanged. -/
import Derived.Test.YthdbcghlcipijaaSb
import Derived.Test.YthdbcghlcipijaaSc
set_option linter.unusedSimpArgs false
set_option linter.unusedVariables false
namespace Go.Pc
open Go Go.Proofs

/-- One after the other. -/
def chain (ks : List (Int × Int)) : List Int → List Int → Prop
  | _, [] => True
  | D, n :: l => canCut ks D n ∧ chain ks (D ++ [n]) l
theorem chain_app {ks : List (Int × Int)} : ∀ {P l D : List Int}, chain ks D (P ++ l) ↔ chain ks D P ∧ chain ks (D ++ P) l
  | [], l, D => by simp [chain]
  | n :: P, l, D => by simp only [List.cons_append, chain, chain_app (P := P), List.append_assoc, List.nil_append, and_assoc]
theorem canCut_congr {ks : List (Int × Int)} {D D' : List Int} (h : ∀ x, x ∈ D ↔ x ∈ D') {n : Int} (hc : canCut ks D n) : canCut ks D' n := by
  obtain ⟨q, hq, e, h1, h2⟩ := hc
  exact ⟨q, hq, e, fun hm => h1 ((h _).2 hm), fun h0 => (h _).1 (h2 h0)⟩
theorem chain_congr {ks : List (Int × Int)} : ∀ {l D D' : List Int}, (∀ x, x ∈ D ↔ x ∈ D') → chain ks D l → chain ks D' l
  | [], _, _, _, _ => trivial
  | n :: l, D, D', h, hc => ⟨canCut_congr h hc.1, chain_congr (fun x => by simp [h x]) hc.2⟩
theorem chain_iff {ks : List (Int × Int)} : ∀ {l D : List Int}, chain ks D l ↔ ∀ (i : Nat) n, l[i]? = some n → canCut ks (D ++ l.take i) n
  | [], D => by simp [chain]
  | m :: l, D => by
    rw [chain, chain_iff (l := l)]
    refine ⟨fun ⟨h1, h2⟩ i n hn => ?_, fun h => ⟨by simpa using h 0 m rfl, fun i n hn => by simpa using h (i + 1) n (by simpa using hn)⟩⟩
    cases i with
    | zero => simp at hn; subst hn; simpa using h1
    | succ i => simpa using h2 i n (by simpa using hn)
theorem begins_chain {ks : List (Int × Int)} {S : List Int} : begins ks S ↔ chain ks [] S := by
  rw [begins_iff, chain_iff]; simp

/-- Two steps exchanged. -/
def swp (S : List Int) (i : Nat) : List Int := (S.set i ((S[i + 1]?).getD 0)).set (i + 1) ((S[i]?).getD 0)
theorem swp_len (S : List Int) (i : Nat) : (swp S i).length = S.length := by simp [swp]
theorem swp_split {S : List Int} {i : Nat} (h : i + 1 < S.length) : ∃ P a b Q, S = P ++ a :: b :: Q ∧ P.length = i ∧ S[i]? = some a ∧ S[i + 1]? = some b ∧ swp S i = P ++ b :: a :: Q := by
  refine ⟨S.take i, S[i], S[i + 1], S.drop (i + 2), ?_, by simp; omega, List.getElem?_eq_getElem _, List.getElem?_eq_getElem _, ?_⟩
  · rw [← List.drop_eq_getElem_cons (by omega), ← List.drop_eq_getElem_cons (by omega), List.take_append_drop]
  · unfold swp
    rw [List.getElem?_eq_getElem (by omega), List.getElem?_eq_getElem (by omega)]
    simp only [Option.getD_some]
    refine List.ext_getElem? fun j => ?_
    by_cases h1 : j < i
    · rw [List.getElem?_set_ne (by omega), List.getElem?_set_ne (by omega), List.getElem?_append_left (by simp; omega), List.getElem?_take, if_pos h1]
    · rw [List.getElem?_append_right (by simp; omega)]
      have e : (S.take i).length = i := by simp; omega
      rw [e]
      obtain ⟨m, rfl⟩ : ∃ m, j = i + m := ⟨j - i, by omega⟩
      rw [Nat.add_sub_cancel_left]
      match m with
      | 0 =>
        show ((S.set i S[i + 1]).set (i + 1) S[i])[i]? = some S[i + 1]
        rw [List.getElem?_set_ne (by omega), List.getElem?_set_self (by omega)]
      | 1 => rw [List.getElem?_set_self (by simp; omega)]; rfl
      | m + 2 => rw [List.getElem?_set_ne (by omega), List.getElem?_set_ne (by omega)]; simp [Nat.add_assoc, Nat.add_comm 2 m]
theorem swp_swp {S : List Int} {i : Nat} (h : i + 1 < S.length) : swp (swp S i) i = S := by
  obtain ⟨P, a, b, Q, h1, h2, h3, h4, h5⟩ := swp_split h
  obtain ⟨P', a', b', Q', g1, g2, g3, g4, g5⟩ := swp_split (S := swp S i) (i := i) (by rw [swp_len]; exact h)
  rw [g5, h1]
  rw [h5] at g1
  obtain ⟨e1, e2⟩ := List.append_inj g1 (by omega)
  simp at e2
  obtain ⟨rfl, rfl, rfl⟩ := e2
  rw [e1]

/-- It is possible exactly if the first one is not above the second one. -/
theorem Plan.swp_valid {p : Plan} {S : List Int} (hv : p.vsteps S) {i : Nat} {a b : Int} (ha : S[i]? = some a) (hb : S[i + 1]? = some b) : p.vsteps (swp S i) ↔ p.above b ≠ a := by
  have hi : i + 1 < S.length := (List.getElem?_eq_some_iff.1 hb).1
  obtain ⟨P, a', b', Q, h1, h2, h3, h4, h5⟩ := swp_split hi
  rw [ha] at h3; rw [hb] at h4
  cases h3; cases h4
  obtain ⟨hp, hl, hbg⟩ := hv
  obtain ⟨f1, f2⟩ := Plan.knots_facts hp.1
  rw [begins_chain, h1, chain_app] at hbg
  obtain ⟨c1, c2, c3, c4⟩ := hbg
  simp only [List.nil_append] at c2 c3 c4
  obtain ⟨q, hq, e, n1, n2⟩ := c3
  have hab : p.above b = q.2 := by
    unfold Plan.above
    rw [if_pos hp]
    cases hf : (p.knots 0 (-1)).find? fun q => decide (q.1 = b) with
    | none =>
      rw [List.find?_eq_none] at hf
      exact absurd e (by simpa using hf q hq)
    | some r =>
      have h6 := List.find?_some hf
      have h7 := fst_inj f1 (List.mem_of_find?_eq_some hf) hq (by rw [e]; simpa using h6)
      rw [h7]
  rw [hab]
  have hiff : p.vsteps (swp S i) ↔ chain (p.knots 0 (-1)) [] (P ++ b :: a :: Q) := by
    unfold Plan.vsteps
    rw [swp_len, begins_chain, h5]
    exact ⟨fun h => h.2.2, fun h => ⟨hp, hl, h⟩⟩
  rw [hiff, chain_app]
  simp only [List.nil_append, chain]
  refine ⟨fun ⟨_, d1, _⟩ hqa => ?_, fun hne => ⟨c1, ⟨q, hq, e, fun hm => n1 (by simp [hm]), fun h0 => ?_⟩, ?_, ?_⟩⟩
  · obtain ⟨r, hr, e', _, d2⟩ := d1
    have := fst_inj f1 hr hq (e'.trans e.symm)
    subst this
    obtain ⟨ra, hra, ea, na, _⟩ := c2
    have h0 : 0 ≤ r.2 := by rw [hqa, ← ea]; exact (f2 ra hra).2.1
    have := d2 h0
    rw [hqa] at this
    exact na this
  · have := n2 h0
    simp at this
    rcases this with h | h
    · exact h
    · exact absurd h hne
  · obtain ⟨r, hr, e', m1, m2⟩ := c2
    refine ⟨r, hr, e', fun hm => ?_, fun h0 => by simp [m2 h0]⟩
    simp at hm
    rcases hm with h | h
    · exact m1 h
    · exact n1 (by simp [h])
  · exact chain_congr (fun x => by
      simp only [List.mem_append, List.mem_singleton]
      constructor <;> (rintro ((h | h) | h) <;> simp [h])) c4

theorem ints_len2 (l : List Int) : (ints l).length = l.length := by simp [ints]

theorem e_copyInts : Enters Try.prog 99 := enters_of Try.func99 (by kernel_rfl) (by kernel_rfl)
theorem copyInts_c (l : List Int) (hl : l.length ≤ 100000) : ACalls Try.prog 99 [.sl (ints l)] [] [] (fun r L => r = .os 0 1 0 l.length ∧ L = [.vec 1 (ints l)]) := by
  refine acalls_tm T_tt Try.func99 rfl e_copyInts 5 rfl [_, .any, .any, .any, .any, .any] rfl (rv := [.tmp 2]) rfl (sx_sound (bl := [3]) T_tt _ _ _ ?_)
  simp (disch := omega) only [SX0, SX1, SX2, SX3, SX4, SX5, SX6, SX7, SX8, SU0, SY0, SY1, Nat.reduceAdd, Nat.reduceMul, Nat.reduceSub, Nat.reduceLeDiff, Nat.reduceEqDiff, Nat.reduceLT, Nat.reduceBEq, ↓reduceIte, Int.reduceLE, Int.reduceLT, Int.reduceToNat, Int.reduceNeg, reduceCtorEq, Int.reduceEq, SF0, SF1, SF2, DCg0, DCe0, DCa0, DCa1, DDb0, DBc0, DBa0, DHb0, DHb1, DHa0]
  refine req intRows ?_
  simp (disch := omega) only [SX0, SX1, SX2, SX3, SX4, SX5, SX6, SX7, SX8, SU0, SY0, SY1, Nat.reduceAdd, Nat.reduceMul, Nat.reduceSub, Nat.reduceLeDiff, Nat.reduceEqDiff, Nat.reduceLT, Nat.reduceBEq, ↓reduceIte, Int.reduceLE, Int.reduceLT, Int.reduceToNat, Int.reduceNeg, reduceCtorEq, Int.reduceEq, SF0, SF1, SF2, DCg0, DCe0, DCa0, DCa1, DDb0, DBc0, DBa0, DHb0, DHb1, DHa0]
  refine req (by omega) ?_
  simp (disch := omega) only [SX0, SX1, SX2, SX3, SX4, SX5, SX6, SX7, SX8, SU0, SY0, SY1, Nat.reduceAdd, Nat.reduceMul, Nat.reduceSub, Nat.reduceLeDiff, Nat.reduceEqDiff, Nat.reduceLT, Nat.reduceBEq, ↓reduceIte, Int.reduceLE, Int.reduceLT, Int.reduceToNat, Int.reduceNeg, reduceCtorEq, Int.reduceEq, SF0, SF1, SF2, DCg0, DCe0, DCa0, DCa1, DDb0, DBc0, DBa0, DHb0, DHb1, DHa0]
  exact fin_ks [0] (.os 0 1 0 l.length) [.vec 1 (ints l)] ⟨rfl, rfl⟩ (by simp [AV.ren, nameK]) (by simp [keepL, nameK, OB.ren, ints]) (by simp) (by simp) (by simp)

theorem e_cloneInts : Enters Try.prog 97 := enters_of Try.func97 (by kernel_rfl) (by kernel_rfl)
theorem cloneInts_c (l : List Int) (hl : l.length ≤ 100000) (hne : l ≠ []) : ACalls Try.prog 97 [.sl (ints l)] [] [] (fun r L => r = .os 0 1 0 l.length ∧ L = [.vec 1 (ints l)]) := by
  refine acalls_tm T_tt Try.func97 rfl e_cloneInts 7 rfl (W8 _ .any .any .any .any .any .any .any []) rfl (rv := [.tmp 2]) rfl (sx_sound (bl := [5]) T_tt _ _ _ ?_)
  simp (disch := omega) only [SX0, SX1, SX2, SX3, SX4, SX5, SX6, SX7, SX8, SU0, SY0, SY1, Nat.reduceAdd, Nat.reduceMul, Nat.reduceSub, Nat.reduceLeDiff, Nat.reduceEqDiff, Nat.reduceLT, Nat.reduceBEq, ↓reduceIte, Int.reduceLE, Int.reduceLT, Int.reduceToNat, Int.reduceNeg, reduceCtorEq, Int.reduceEq, SF0, SF1, SF2, DCg0, DCe0, DCa0, DCa1, DDb0, DBc0, DBa0, DHb0, DHb1, DHa0]
  refine req ⟨by simpa using hne, rfl⟩ ?_
  simp (disch := omega) only [SX0, SX1, SX2, SX3, SX4, SX5, SX6, SX7, SX8, SU0, SY0, SY1, Nat.reduceAdd, Nat.reduceMul, Nat.reduceSub, Nat.reduceLeDiff, Nat.reduceEqDiff, Nat.reduceLT, Nat.reduceBEq, ↓reduceIte, Int.reduceLE, Int.reduceLT, Int.reduceToNat, Int.reduceNeg, reduceCtorEq, Int.reduceEq, SF0, SF1, SF2, DCg0, DCe0, DCa0, DCa1, DDb0, DBc0, DBa0, DHb0, DHb1, DHa0]
  refine req intRows ?_
  simp (disch := omega) only [SX0, SX1, SX2, SX3, SX4, SX5, SX6, SX7, SX8, SU0, SY0, SY1, Nat.reduceAdd, Nat.reduceMul, Nat.reduceSub, Nat.reduceLeDiff, Nat.reduceEqDiff, Nat.reduceLT, Nat.reduceBEq, ↓reduceIte, Int.reduceLE, Int.reduceLT, Int.reduceToNat, Int.reduceNeg, reduceCtorEq, Int.reduceEq, SF0, SF1, SF2, DCg0, DCe0, DCa0, DCa1, DDb0, DBc0, DBa0, DHb0, DHb1, DHa0]
  refine req (by omega) ?_
  simp (disch := omega) only [SX0, SX1, SX2, SX3, SX4, SX5, SX6, SX7, SX8, SU0, SY0, SY1, Nat.reduceAdd, Nat.reduceMul, Nat.reduceSub, Nat.reduceLeDiff, Nat.reduceEqDiff, Nat.reduceLT, Nat.reduceBEq, ↓reduceIte, Int.reduceLE, Int.reduceLT, Int.reduceToNat, Int.reduceNeg, reduceCtorEq, Int.reduceEq, SF0, SF1, SF2, DCg0, DCe0, DCa0, DCa1, DDb0, DBc0, DBa0, DHb0, DHb1, DHa0]
  exact fin_ks [0] (.os 0 1 0 l.length) [.vec 1 (ints l)] ⟨rfl, rfl⟩ (by simp [AV.ren, nameK]) (by simp [keepL, nameK, OB.ren, ints]) (by simp) (by simp) (by simp)

/-- What SwapSteps tells. -/
def swapOk (p : Plan) (S : List Int) (a : Int) : Prop := p.vsteps S ∧ 0 ≤ a ∧ a + 1 < S.length
instance (p : Plan) (S : List Int) (a : Int) : Decidable (swapOk p S a) := inferInstanceAs (Decidable (_ ∧ _))
def swapL (p : Plan) (S : List Int) (a : Int) : List Int := if swapOk p S a then (if p.vsteps (swp S a.toNat) then swp S a.toNat else S) else []
def swapB (p : Plan) (S : List Int) (a : Int) : Bool := decide (swapOk p S a ∧ p.vsteps (swp S a.toNat))

/-- Steps in an own row are read. -/
theorem steps_own {f : FuncId} {p : Plan} {S : List Int} {v : Value} (h : ACalls Try.prog f [.agg p.cs, .sl (ints S)] [] [] (fun r L => r = .val v ∧ L = [])) {fx : List Nat} {r n : Nat} {es : List (List AV)} {s : AS} (hL : s.L[r]? = some (.vec 1 es)) (he : es = ints S) (hn : n = S.length) {K : AV → AS → Prop} (hK : K (.val v) s) :
    ACall Try.prog fx (.fn f []) [.agg p.cs, .os r 1 0 n] s K := by
  subst he
  subst hn
  refine acall_borrow hL (v := v) ?_ hK
  simp only [List.map_cons, List.map_nil, AV.frz, freeL_frz _ _ _ p.free, if_true, Nat.zero_add, List.drop_zero, true_and, ints_len2, Nat.le_refl]
  rw [List.take_of_length_le (by simp [ints])]
  exact qcall_one h (by simp [freeL, AV.free, Plan.free])
theorem fin_ib {R : AV → List OB → Prop} {s : AS} {S : List Int} {b : Bool} {r n : Nat} {es : List (List AV)} (hL : s.L[r]? = some (.vec 1 es)) (he : es = ints S) (hn : n = S.length) (hR : R (.tup [.sl (ints S), .val (.bool b)]) []) : Fin [] 0 R s (.tup [.os r 1 0 n, .val (.bool b)]) := by
  subst he
  subst hn
  refine fin_frz hL (by simp) ?_
  simp only [AV.frz, frzL, if_true, Nat.zero_add, true_and, ints_len2, Nat.le_refl, List.drop_zero]
  rw [List.take_of_length_le (by simp [ints])]
  exact fin_free rfl hR
theorem fin_nb {R : AV → List OB → Prop} {s : AS} {b : Bool} (hR : R (.tup [.sl [], .val (.bool b)]) []) : Fin [] 0 R s (.tup [.val (.slice none 0 0), .val (.bool b)]) := by
  refine fin_nrm ?_
  simp only [AV.nrm, nrmL]
  exact fin_free rfl hR

theorem e_swapStepsS : Enters Try.prog 26 := enters_of Try.func26 (by kernel_rfl) (by kernel_rfl)
set_option maxRecDepth 8000 in
set_option maxHeartbeats 4000000 in
theorem swapStepsS_c (p : Plan) (S : List Int) (a : Int) (hS : S.length ≤ 100000) (ha : -1000 ≤ a ∧ a ≤ 100000) : ACalls Try.prog 26 [.agg p.cs, .sl (ints S), .val (.int .i64 a)] [] [] (fun r L => r = .tup [.sl (ints (swapL p S a)), .val (.bool (swapB p S a))] ∧ L = []) := by
  have hno : ¬ swapOk p S a → swapL p S a = [] ∧ swapB p S a = false := fun h => ⟨by unfold swapL; rw [if_neg h], by unfold swapB; rw [decide_eq_false fun hh => h hh.1]⟩
  refine acalls_tm T_tt Try.func26 rfl e_swapStepsS 48 rfl (W8 _ _ _ .any .any .any .any .any (W8 .any .any .any .any .any .any .any .any (W8 .any .any .any .any .any .any .any .any (W8 .any .any .any .any .any .any .any .any (W8 .any .any .any .any .any .any .any .any (W8 .any .any .any .any .any .any .any .any [.any, .any, .any])))))) rfl (rv := [.tmp 6, .tmp 7]) rfl (sx_sound (bl := []) T_tt _ _ _ ?_)
  simp (disch := omega) only [SX0, SX1, SX2, SX3, SX4, SX5, SX6, SX7, SX8, SU0, SY0, SY1, Nat.reduceAdd, Nat.reduceMul, Nat.reduceSub, Nat.reduceLeDiff, Nat.reduceEqDiff, Nat.reduceLT, Nat.reduceBEq, ↓reduceIte, Int.reduceLE, Int.reduceLT, Int.reduceToNat, Int.reduceNeg, reduceCtorEq, Int.reduceEq, SF0, SF1, SF2, DCg0, DCe0, DCa0, DCa1, DDb0, DBc0, DBa0, DHb0, DHb1, DHa0]
  refine acall_one (planSizeS_c p) (by simp [freeL, AV.free, Plan.free]) rfl ?_
  simp (disch := omega) only [SX0, SX1, SX2, SX3, SX4, SX5, SX6, SX7, SX8, SU0, SY0, SY1, Nat.reduceAdd, Nat.reduceMul, Nat.reduceSub, Nat.reduceLeDiff, Nat.reduceEqDiff, Nat.reduceLT, Nat.reduceBEq, ↓reduceIte, Int.reduceLE, Int.reduceLT, Int.reduceToNat, Int.reduceNeg, reduceCtorEq, Int.reduceEq, SF0, SF1, SF2, DCg0, DCe0, DCa0, DCa1, DDb0, DBc0, DBa0, DHb0, DHb1, DHa0]
  refine br_dec (fun h1 => ?_) (fun h1 => ?_)
  · obtain ⟨e1, e2⟩ := hno fun h => Plan.size_neg (p := p) (by omega) h.1.1
    simp (disch := omega) only [SX0, SX1, SX2, SX3, SX4, SX5, SX6, SX7, SX8, SU0, SY0, SY1, Nat.reduceAdd, Nat.reduceMul, Nat.reduceSub, Nat.reduceLeDiff, Nat.reduceEqDiff, Nat.reduceLT, Nat.reduceBEq, ↓reduceIte, Int.reduceLE, Int.reduceLT, Int.reduceToNat, Int.reduceNeg, reduceCtorEq, Int.reduceEq, SF0, SF1, SF2, DCg0, DCe0, DCa0, DCa1, DDb0, DBc0, DBa0, DHb0, DHb1, DHa0]
    exact fin_nb ⟨by rw [e1, e2]; rfl, rfl⟩
  have hs := Plan.size_pos (p := p) (by omega)
  have V := validStepsS_c p hs.1 S (by omega)
  simp (disch := omega) only [SX0, SX1, SX2, SX3, SX4, SX5, SX6, SX7, SX8, SU0, SY0, SY1, Nat.reduceAdd, Nat.reduceMul, Nat.reduceSub, Nat.reduceLeDiff, Nat.reduceEqDiff, Nat.reduceLT, Nat.reduceBEq, ↓reduceIte, Int.reduceLE, Int.reduceLT, Int.reduceToNat, Int.reduceNeg, reduceCtorEq, Int.reduceEq, SF0, SF1, SF2, DCg0, DCe0, DCa0, DCa1, DDb0, DBc0, DBa0, DHb0, DHb1, DHa0]
  refine acall_one V (by simp [freeL, AV.free, Plan.free]) rfl ?_
  simp (disch := omega) only [SX0, SX1, SX2, SX3, SX4, SX5, SX6, SX7, SX8, SU0, SY0, SY1, Nat.reduceAdd, Nat.reduceMul, Nat.reduceSub, Nat.reduceLeDiff, Nat.reduceEqDiff, Nat.reduceLT, Nat.reduceBEq, ↓reduceIte, Int.reduceLE, Int.reduceLT, Int.reduceToNat, Int.reduceNeg, reduceCtorEq, Int.reduceEq, SF0, SF1, SF2, DCg0, DCe0, DCa0, DCa1, DDb0, DBc0, DBa0, DHb0, DHb1, DHa0]
  refine br_ndec (fun hv => ?_) (fun hv => ?_)
  · obtain ⟨e1, e2⟩ := hno fun h => hv h.1
    simp (disch := omega) only [SX0, SX1, SX2, SX3, SX4, SX5, SX6, SX7, SX8, SU0, SY0, SY1, Nat.reduceAdd, Nat.reduceMul, Nat.reduceSub, Nat.reduceLeDiff, Nat.reduceEqDiff, Nat.reduceLT, Nat.reduceBEq, ↓reduceIte, Int.reduceLE, Int.reduceLT, Int.reduceToNat, Int.reduceNeg, reduceCtorEq, Int.reduceEq, SF0, SF1, SF2, DCg0, DCe0, DCa0, DCa1, DDb0, DBc0, DBa0, DHb0, DHb1, DHa0]
    exact fin_nb ⟨by rw [e1, e2]; rfl, rfl⟩
  simp (disch := omega) only [SX0, SX1, SX2, SX3, SX4, SX5, SX6, SX7, SX8, SU0, SY0, SY1, Nat.reduceAdd, Nat.reduceMul, Nat.reduceSub, Nat.reduceLeDiff, Nat.reduceEqDiff, Nat.reduceLT, Nat.reduceBEq, ↓reduceIte, Int.reduceLE, Int.reduceLT, Int.reduceToNat, Int.reduceNeg, reduceCtorEq, Int.reduceEq, SF0, SF1, SF2, DCg0, DCe0, DCa0, DCa1, DDb0, DBc0, DBa0, DHb0, DHb1, DHa0]
  refine acall_one (inRange_c _ _ _) rfl rfl ?_
  simp (disch := omega) only [SX0, SX1, SX2, SX3, SX4, SX5, SX6, SX7, SX8, SU0, SY0, SY1, Nat.reduceAdd, Nat.reduceMul, Nat.reduceSub, Nat.reduceLeDiff, Nat.reduceEqDiff, Nat.reduceLT, Nat.reduceBEq, ↓reduceIte, Int.reduceLE, Int.reduceLT, Int.reduceToNat, Int.reduceNeg, reduceCtorEq, Int.reduceEq, SF0, SF1, SF2, DCg0, DCe0, DCa0, DCa1, DDb0, DBc0, DBa0, DHb0, DHb1, DHa0]
  refine br_ndec (fun h2 => ?_) (fun h2 => ?_)
  · obtain ⟨e1, e2⟩ := hno fun h => h2 ⟨h.2.1, by have := h.2.2; omega⟩
    simp (disch := omega) only [SX0, SX1, SX2, SX3, SX4, SX5, SX6, SX7, SX8, SU0, SY0, SY1, Nat.reduceAdd, Nat.reduceMul, Nat.reduceSub, Nat.reduceLeDiff, Nat.reduceEqDiff, Nat.reduceLT, Nat.reduceBEq, ↓reduceIte, Int.reduceLE, Int.reduceLT, Int.reduceToNat, Int.reduceNeg, reduceCtorEq, Int.reduceEq, SF0, SF1, SF2, DCg0, DCe0, DCa0, DCa1, DDb0, DBc0, DBa0, DHb0, DHb1, DHa0]
    exact fin_nb ⟨by rw [e1, e2]; rfl, rfl⟩
  have hok : swapOk p S a := ⟨hv, h2.1, by omega⟩
  obtain ⟨i, rfl⟩ : ∃ n : Nat, a = n := ⟨a.toNat, by omega⟩
  obtain ⟨x, hx⟩ := get_lt (l := S) (i := i) (by omega)
  obtain ⟨y, hy⟩ := get_lt (l := S) (i := i + 1) (by omega)
  have esw : swp S i = (S.set i y).set (i + 1) x := by unfold swp; rw [hx, hy]; rfl
  have V2 := validStepsS_c p hs.1 (swp S i) (by rw [swp_len]; omega)
  have eL : swapL p S i = if p.vsteps (swp S i) then swp S i else S := by unfold swapL; rw [if_pos hok]; rfl
  have eB : swapB p S i = decide (p.vsteps (swp S i)) := by unfold swapB; simp only [hok, true_and]; rfl
  rw [eL, eB]
  simp (disch := omega) only [SX0, SX1, SX2, SX3, SX4, SX5, SX6, SX7, SX8, SU0, SY0, SY1, Nat.reduceAdd, Nat.reduceMul, Nat.reduceSub, Nat.reduceLeDiff, Nat.reduceEqDiff, Nat.reduceLT, Nat.reduceBEq, ↓reduceIte, Int.reduceLE, Int.reduceLT, Int.reduceToNat, Int.reduceNeg, reduceCtorEq, Int.reduceEq, SF0, SF1, SF2, DCg0, DCe0, DCa0, DCa1, DDb0, DBc0, DBa0, DHb0, DHb1, DHa0]
  refine acall_own (copyInts_c S (by omega)) [] [] (by simp only [SX0, SX1, SX2, SX3, SX4, SX5, SX6, SX7, SX8, SU0, SY0, SY1, Nat.reduceAdd, Nat.reduceMul, Nat.reduceSub, Nat.reduceLeDiff, Nat.reduceEqDiff, Nat.reduceLT, Nat.reduceBEq, ↓reduceIte, Int.reduceLE, Int.reduceLT, Int.reduceToNat, Int.reduceNeg, reduceCtorEq, Int.reduceEq, SF0, SF1, SF2, DCg0, DCe0, DCa0, DCa1, DDb0, DBc0, DBa0, DHb0, DHb1, DHa0, SX0]) (by decide) (by decide) (by rfl) (by simp only [SX0, SX1, SX2, SX3, SX4, SX5, SX6, SX7, SX8, SU0, SY0, SY1, Nat.reduceAdd, Nat.reduceMul, Nat.reduceSub, Nat.reduceLeDiff, Nat.reduceEqDiff, Nat.reduceLT, Nat.reduceBEq, ↓reduceIte, Int.reduceLE, Int.reduceLT, Int.reduceToNat, Int.reduceNeg, reduceCtorEq, Int.reduceEq, SF0, SF1, SF2, DCg0, DCe0, DCa0, DCa1, DDb0, DBc0, DBa0, DHb0, DHb1, DHa0, SX0]) ?_
  rintro _ _ ⟨rfl, rfl⟩
  have ei : ((i : Int) + 1).toNat = i + 1 := by omega
  have hxs : (S.set i y)[i + 1]? = some y := by rw [List.getElem?_set_ne (by omega)]; exact hy
  have hset : ((ints S).set i [AV.val (.int .i64 y)]).set (i + 1) [AV.val (.int .i64 x)] = ints (swp S i) := by rw [esw]; simp [ints, List.map_set]
  simp only [ints] at hset
  simp (disch := omega) only [SX0, SX1, SX2, SX3, SX4, SX5, SX6, SX7, SX8, SU0, SY0, SY1, Nat.reduceAdd, Nat.reduceMul, Nat.reduceSub, Nat.reduceLeDiff, Nat.reduceEqDiff, Nat.reduceLT, Nat.reduceBEq, ↓reduceIte, Int.reduceLE, Int.reduceLT, Int.reduceToNat, Int.reduceNeg, reduceCtorEq, Int.reduceEq, SF0, SF1, SF2, DCg0, DCe0, DCa0, DCa1, DDb0, DBc0, DBa0, DHb0, DHb1, DHa0, hy]
  refine req (by omega) ?_
  simp (disch := omega) only [SX0, SX1, SX2, SX3, SX4, SX5, SX6, SX7, SX8, SU0, SY0, SY1, Nat.reduceAdd, Nat.reduceMul, Nat.reduceSub, Nat.reduceLeDiff, Nat.reduceEqDiff, Nat.reduceLT, Nat.reduceBEq, ↓reduceIte, Int.reduceLE, Int.reduceLT, Int.reduceToNat, Int.reduceNeg, reduceCtorEq, Int.reduceEq, SF0, SF1, SF2, DCg0, DCe0, DCa0, DCa1, DDb0, DBc0, DBa0, DHb0, DHb1, DHa0, hy, ei]
  refine req (by omega) ?_
  simp (disch := omega) only [SX0, SX1, SX2, SX3, SX4, SX5, SX6, SX7, SX8, SU0, SY0, SY1, Nat.reduceAdd, Nat.reduceMul, Nat.reduceSub, Nat.reduceLeDiff, Nat.reduceEqDiff, Nat.reduceLT, Nat.reduceBEq, ↓reduceIte, Int.reduceLE, Int.reduceLT, Int.reduceToNat, Int.reduceNeg, reduceCtorEq, Int.reduceEq, SF0, SF1, SF2, DCg0, DCe0, DCa0, DCa1, DDb0, DBc0, DBa0, DHb0, DHb1, DHa0, hx, hy]
  refine req (by omega) ?_
  simp (disch := omega) only [SX0, SX1, SX2, SX3, SX4, SX5, SX6, SX7, SX8, SU0, SY0, SY1, Nat.reduceAdd, Nat.reduceMul, Nat.reduceSub, Nat.reduceLeDiff, Nat.reduceEqDiff, Nat.reduceLT, Nat.reduceBEq, ↓reduceIte, Int.reduceLE, Int.reduceLT, Int.reduceToNat, Int.reduceNeg, reduceCtorEq, Int.reduceEq, SF0, SF1, SF2, DCg0, DCe0, DCa0, DCa1, DDb0, DBc0, DBa0, DHb0, DHb1, DHa0, hx, hy, ei]
  refine req (by omega) ?_
  have hg : ((S.map fun x => [AV.val (.int .i64 x)]).set i [AV.val (.int .i64 y)])[i + 1]? = some [.val (.int .i64 y)] := by rw [List.getElem?_set_ne (by omega), List.getElem?_map, hy]; rfl
  simp (disch := omega) only [SX0, SX1, SX2, SX3, SX4, SX5, SX6, SX7, SX8, SU0, SY0, SY1, Nat.reduceAdd, Nat.reduceMul, Nat.reduceSub, Nat.reduceLeDiff, Nat.reduceEqDiff, Nat.reduceLT, Nat.reduceBEq, ↓reduceIte, Int.reduceLE, Int.reduceLT, Int.reduceToNat, Int.reduceNeg, reduceCtorEq, Int.reduceEq, SF0, SF1, SF2, DCg0, DCe0, DCa0, DCa1, DDb0, DBc0, DBa0, DHb0, DHb1, DHa0, hx, hy, ei, hg, hset]
  refine steps_own V2 rfl rfl (by rw [swp_len]) ?_
  simp (disch := omega) only [SX0, SX1, SX2, SX3, SX4, SX5, SX6, SX7, SX8, SU0, SY0, SY1, Nat.reduceAdd, Nat.reduceMul, Nat.reduceSub, Nat.reduceLeDiff, Nat.reduceEqDiff, Nat.reduceLT, Nat.reduceBEq, ↓reduceIte, Int.reduceLE, Int.reduceLT, Int.reduceToNat, Int.reduceNeg, reduceCtorEq, Int.reduceEq, SF0, SF1, SF2, DCg0, DCe0, DCa0, DCa1, DDb0, DBc0, DBa0, DHb0, DHb1, DHa0]
  refine br_ndec (fun h3 => ?_) (fun h3 => ?_)
  · simp (disch := omega) only [SX0, SX1, SX2, SX3, SX4, SX5, SX6, SX7, SX8, SU0, SY0, SY1, Nat.reduceAdd, Nat.reduceMul, Nat.reduceSub, Nat.reduceLeDiff, Nat.reduceEqDiff, Nat.reduceLT, Nat.reduceBEq, ↓reduceIte, Int.reduceLE, Int.reduceLT, Int.reduceToNat, Int.reduceNeg, reduceCtorEq, Int.reduceEq, SF0, SF1, SF2, DCg0, DCe0, DCa0, DCa1, DDb0, DBc0, DBa0, DHb0, DHb1, DHa0]
    refine acall_own (copyInts_c S (by omega)) [] [] (by simp only [SX0, SX1, SX2, SX3, SX4, SX5, SX6, SX7, SX8, SU0, SY0, SY1, Nat.reduceAdd, Nat.reduceMul, Nat.reduceSub, Nat.reduceLeDiff, Nat.reduceEqDiff, Nat.reduceLT, Nat.reduceBEq, ↓reduceIte, Int.reduceLE, Int.reduceLT, Int.reduceToNat, Int.reduceNeg, reduceCtorEq, Int.reduceEq, SF0, SF1, SF2, DCg0, DCe0, DCa0, DCa1, DDb0, DBc0, DBa0, DHb0, DHb1, DHa0, SX0]) (by decide) (by decide) (by rfl) (by simp only [SX0, SX1, SX2, SX3, SX4, SX5, SX6, SX7, SX8, SU0, SY0, SY1, Nat.reduceAdd, Nat.reduceMul, Nat.reduceSub, Nat.reduceLeDiff, Nat.reduceEqDiff, Nat.reduceLT, Nat.reduceBEq, ↓reduceIte, Int.reduceLE, Int.reduceLT, Int.reduceToNat, Int.reduceNeg, reduceCtorEq, Int.reduceEq, SF0, SF1, SF2, DCg0, DCe0, DCa0, DCa1, DDb0, DBc0, DBa0, DHb0, DHb1, DHa0, SX0]) ?_
    rintro _ _ ⟨rfl, rfl⟩
    simp (disch := omega) only [SX0, SX1, SX2, SX3, SX4, SX5, SX6, SX7, SX8, SU0, SY0, SY1, Nat.reduceAdd, Nat.reduceMul, Nat.reduceSub, Nat.reduceLeDiff, Nat.reduceEqDiff, Nat.reduceLT, Nat.reduceBEq, ↓reduceIte, Int.reduceLE, Int.reduceLT, Int.reduceToNat, Int.reduceNeg, reduceCtorEq, Int.reduceEq, SF0, SF1, SF2, DCg0, DCe0, DCa0, DCa1, DDb0, DBc0, DBa0, DHb0, DHb1, DHa0]
    exact fin_ib rfl rfl rfl ⟨by rw [if_neg h3, decide_eq_false h3]; rfl, rfl⟩
  · simp (disch := omega) only [SX0, SX1, SX2, SX3, SX4, SX5, SX6, SX7, SX8, SU0, SY0, SY1, Nat.reduceAdd, Nat.reduceMul, Nat.reduceSub, Nat.reduceLeDiff, Nat.reduceEqDiff, Nat.reduceLT, Nat.reduceBEq, ↓reduceIte, Int.reduceLE, Int.reduceLT, Int.reduceToNat, Int.reduceNeg, reduceCtorEq, Int.reduceEq, SF0, SF1, SF2, DCg0, DCe0, DCa0, DCa1, DDb0, DBc0, DBa0, DHb0, DHb1, DHa0]
    exact fin_ib (S := swp S i) rfl rfl (by rw [swp_len]) ⟨by rw [if_pos h3, decide_eq_true h3]; rfl, rfl⟩

theorem e_swapStepsI : Enters Try.prog 25 := enters_of Try.func25 (by kernel_rfl) (by kernel_rfl)
set_option maxRecDepth 8000 in
set_option maxHeartbeats 4000000 in
theorem swapStepsI_c (p : Plan) (S : List Int) (a : Int) (hS : S.length ≤ 100000) (ha : -1000 ≤ a ∧ a ≤ 100000) : ACalls Try.prog 25 [.agg p.cs, .sl (ints S), .val (.int .i64 a)] [] [] (fun r L => r = .tup [.sl (ints (swapL p S a)), .val (.bool (swapB p S a))] ∧ L = []) := by
  have hno : ¬ swapOk p S a → swapL p S a = [] ∧ swapB p S a = false := fun h => ⟨by unfold swapL; rw [if_neg h], by unfold swapB; rw [decide_eq_false fun hh => h hh.1]⟩
  refine acalls_tm T_tt Try.func25 rfl e_swapStepsI 46 rfl (W8 _ _ _ .any .any .any .any .any (W8 .any .any .any .any .any .any .any .any (W8 .any .any .any .any .any .any .any .any (W8 .any .any .any .any .any .any .any .any (W8 .any .any .any .any .any .any .any .any (W8 .any .any .any .any .any .any .any .any [.any])))))) rfl (rv := [.tmp 6, .tmp 7]) rfl (sx_sound (bl := []) T_tt _ _ _ ?_)
  simp (disch := omega) only [SX0, SX1, SX2, SX3, SX4, SX5, SX6, SX7, SX8, SU0, SY0, SY1, Nat.reduceAdd, Nat.reduceMul, Nat.reduceSub, Nat.reduceLeDiff, Nat.reduceEqDiff, Nat.reduceLT, Nat.reduceBEq, ↓reduceIte, Int.reduceLE, Int.reduceLT, Int.reduceToNat, Int.reduceNeg, reduceCtorEq, Int.reduceEq, SF0, SF1, SF2, DCg0, DCe0, DCa0, DCa1, DDb0, DBc0, DBa0, DHb0, DHb1, DHa0]
  refine acall_one (validStepsI_c p S (by omega)) (by simp [freeL, AV.free, Plan.free]) rfl ?_
  simp (disch := omega) only [SX0, SX1, SX2, SX3, SX4, SX5, SX6, SX7, SX8, SU0, SY0, SY1, Nat.reduceAdd, Nat.reduceMul, Nat.reduceSub, Nat.reduceLeDiff, Nat.reduceEqDiff, Nat.reduceLT, Nat.reduceBEq, ↓reduceIte, Int.reduceLE, Int.reduceLT, Int.reduceToNat, Int.reduceNeg, reduceCtorEq, Int.reduceEq, SF0, SF1, SF2, DCg0, DCe0, DCa0, DCa1, DDb0, DBc0, DBa0, DHb0, DHb1, DHa0]
  refine br_ndec (fun hv => ?_) (fun hv => ?_)
  · obtain ⟨e1, e2⟩ := hno fun h => hv h.1
    simp (disch := omega) only [SX0, SX1, SX2, SX3, SX4, SX5, SX6, SX7, SX8, SU0, SY0, SY1, Nat.reduceAdd, Nat.reduceMul, Nat.reduceSub, Nat.reduceLeDiff, Nat.reduceEqDiff, Nat.reduceLT, Nat.reduceBEq, ↓reduceIte, Int.reduceLE, Int.reduceLT, Int.reduceToNat, Int.reduceNeg, reduceCtorEq, Int.reduceEq, SF0, SF1, SF2, DCg0, DCe0, DCa0, DCa1, DDb0, DBc0, DBa0, DHb0, DHb1, DHa0]
    exact fin_nb ⟨by rw [e1, e2]; rfl, rfl⟩
  simp (disch := omega) only [SX0, SX1, SX2, SX3, SX4, SX5, SX6, SX7, SX8, SU0, SY0, SY1, Nat.reduceAdd, Nat.reduceMul, Nat.reduceSub, Nat.reduceLeDiff, Nat.reduceEqDiff, Nat.reduceLT, Nat.reduceBEq, ↓reduceIte, Int.reduceLE, Int.reduceLT, Int.reduceToNat, Int.reduceNeg, reduceCtorEq, Int.reduceEq, SF0, SF1, SF2, DCg0, DCe0, DCa0, DCa1, DDb0, DBc0, DBa0, DHb0, DHb1, DHa0]
  refine br_dec (fun h1 => ?_) (fun h1 => ?_)
  · obtain ⟨e1, e2⟩ := hno fun h => by have := h.2.1; omega
    simp (disch := omega) only [SX0, SX1, SX2, SX3, SX4, SX5, SX6, SX7, SX8, SU0, SY0, SY1, Nat.reduceAdd, Nat.reduceMul, Nat.reduceSub, Nat.reduceLeDiff, Nat.reduceEqDiff, Nat.reduceLT, Nat.reduceBEq, ↓reduceIte, Int.reduceLE, Int.reduceLT, Int.reduceToNat, Int.reduceNeg, reduceCtorEq, Int.reduceEq, SF0, SF1, SF2, DCg0, DCe0, DCa0, DCa1, DDb0, DBc0, DBa0, DHb0, DHb1, DHa0]
    exact fin_nb ⟨by rw [e1, e2]; rfl, rfl⟩
  simp (disch := omega) only [SX0, SX1, SX2, SX3, SX4, SX5, SX6, SX7, SX8, SU0, SY0, SY1, Nat.reduceAdd, Nat.reduceMul, Nat.reduceSub, Nat.reduceLeDiff, Nat.reduceEqDiff, Nat.reduceLT, Nat.reduceBEq, ↓reduceIte, Int.reduceLE, Int.reduceLT, Int.reduceToNat, Int.reduceNeg, reduceCtorEq, Int.reduceEq, SF0, SF1, SF2, DCg0, DCe0, DCa0, DCa1, DDb0, DBc0, DBa0, DHb0, DHb1, DHa0]
  refine br_dec (fun h2 => ?_) (fun h2 => ?_)
  · obtain ⟨e1, e2⟩ := hno fun h => by have := h.2.2; omega
    simp (disch := omega) only [SX0, SX1, SX2, SX3, SX4, SX5, SX6, SX7, SX8, SU0, SY0, SY1, Nat.reduceAdd, Nat.reduceMul, Nat.reduceSub, Nat.reduceLeDiff, Nat.reduceEqDiff, Nat.reduceLT, Nat.reduceBEq, ↓reduceIte, Int.reduceLE, Int.reduceLT, Int.reduceToNat, Int.reduceNeg, reduceCtorEq, Int.reduceEq, SF0, SF1, SF2, DCg0, DCe0, DCa0, DCa1, DDb0, DBc0, DBa0, DHb0, DHb1, DHa0]
    exact fin_nb ⟨by rw [e1, e2]; rfl, rfl⟩
  have hok : swapOk p S a := ⟨hv, by omega, by omega⟩
  obtain ⟨i, rfl⟩ : ∃ n : Nat, a = n := ⟨a.toNat, by omega⟩
  obtain ⟨x, hx⟩ := get_lt (l := S) (i := i) (by omega)
  obtain ⟨y, hy⟩ := get_lt (l := S) (i := i + 1) (by omega)
  have hne : S ≠ [] := fun h => by subst h; simp at hx
  have esw : swp S i = (S.set i y).set (i + 1) x := by unfold swp; rw [hx, hy]; rfl
  have V2 := validStepsI_c p (swp S i) (by rw [swp_len]; omega)
  have eL : swapL p S i = if p.vsteps (swp S i) then swp S i else S := by unfold swapL; rw [if_pos hok]; rfl
  have eB : swapB p S i = decide (p.vsteps (swp S i)) := by unfold swapB; simp only [hok, true_and]; rfl
  rw [eL, eB]
  have ei : ((i : Int) + 1).toNat = i + 1 := by omega
  have hset : ((ints S).set i [AV.val (.int .i64 y)]).set (i + 1) [AV.val (.int .i64 x)] = ints (swp S i) := by rw [esw]; simp [ints, List.map_set]
  simp only [ints] at hset
  have hg : ((S.map fun x => [AV.val (.int .i64 x)]).set i [AV.val (.int .i64 y)])[i + 1]? = some [.val (.int .i64 y)] := by rw [List.getElem?_set_ne (by omega), List.getElem?_map, hy]; rfl
  simp (disch := omega) only [SX0, SX1, SX2, SX3, SX4, SX5, SX6, SX7, SX8, SU0, SY0, SY1, Nat.reduceAdd, Nat.reduceMul, Nat.reduceSub, Nat.reduceLeDiff, Nat.reduceEqDiff, Nat.reduceLT, Nat.reduceBEq, ↓reduceIte, Int.reduceLE, Int.reduceLT, Int.reduceToNat, Int.reduceNeg, reduceCtorEq, Int.reduceEq, SF0, SF1, SF2, DCg0, DCe0, DCa0, DCa1, DDb0, DBc0, DBa0, DHb0, DHb1, DHa0]
  refine acall_own (cloneInts_c S (by omega) hne) [] [] (by simp only [SX0, SX1, SX2, SX3, SX4, SX5, SX6, SX7, SX8, SU0, SY0, SY1, Nat.reduceAdd, Nat.reduceMul, Nat.reduceSub, Nat.reduceLeDiff, Nat.reduceEqDiff, Nat.reduceLT, Nat.reduceBEq, ↓reduceIte, Int.reduceLE, Int.reduceLT, Int.reduceToNat, Int.reduceNeg, reduceCtorEq, Int.reduceEq, SF0, SF1, SF2, DCg0, DCe0, DCa0, DCa1, DDb0, DBc0, DBa0, DHb0, DHb1, DHa0, SX0]) (by decide) (by decide) (by rfl) (by simp only [SX0, SX1, SX2, SX3, SX4, SX5, SX6, SX7, SX8, SU0, SY0, SY1, Nat.reduceAdd, Nat.reduceMul, Nat.reduceSub, Nat.reduceLeDiff, Nat.reduceEqDiff, Nat.reduceLT, Nat.reduceBEq, ↓reduceIte, Int.reduceLE, Int.reduceLT, Int.reduceToNat, Int.reduceNeg, reduceCtorEq, Int.reduceEq, SF0, SF1, SF2, DCg0, DCe0, DCa0, DCa1, DDb0, DBc0, DBa0, DHb0, DHb1, DHa0, SX0]) ?_
  rintro _ _ ⟨rfl, rfl⟩
  simp (disch := omega) only [SX0, SX1, SX2, SX3, SX4, SX5, SX6, SX7, SX8, SU0, SY0, SY1, Nat.reduceAdd, Nat.reduceMul, Nat.reduceSub, Nat.reduceLeDiff, Nat.reduceEqDiff, Nat.reduceLT, Nat.reduceBEq, ↓reduceIte, Int.reduceLE, Int.reduceLT, Int.reduceToNat, Int.reduceNeg, reduceCtorEq, Int.reduceEq, SF0, SF1, SF2, DCg0, DCe0, DCa0, DCa1, DDb0, DBc0, DBa0, DHb0, DHb1, DHa0]
  refine awp_float (bl := []) T_tt mixed [0, 1] [0, 1, 2, 3, 4, 5, 6, 7, 8, 9, 10, 11, 12, 13, 14] [(15, [(0, .f 26), (1, .f 27), (5, .f 31), (6, .f 32), (7, .f 33), (8, .f 34), (9, .f 35), (10, .f 36), (11, .f 37), (12, .f 38), (13, .f 39), (14, .f 40)]), (16, [(2, .f 28), (3, .f 29), (4, .f 30)]), (17, [])] [] (by kernel_rfl) (by kernel_rfl) ?_
  repeat (first | (refine req (by omega) ?_) | simp (disch := omega) only [SX0, SX1, SX2, SX3, SX4, SX5, SX6, SX7, SX8, SU0, SY0, SY1, Nat.reduceAdd, Nat.reduceMul, Nat.reduceSub, Nat.reduceLeDiff, Nat.reduceEqDiff, Nat.reduceLT, Nat.reduceBEq, ↓reduceIte, Int.reduceLE, Int.reduceLT, Int.reduceToNat, Int.reduceNeg, reduceCtorEq, Int.reduceEq, SF0, SF1, SF2, DCg0, DCe0, DCa0, DCa1, DDb0, DBc0, DBa0, DHb0, DHb1, DHa0, hx, hy, ei, hg, hset])
  refine steps_own V2 rfl rfl (by rw [swp_len]) ?_
  simp (disch := omega) only [SX0, SX1, SX2, SX3, SX4, SX5, SX6, SX7, SX8, SU0, SY0, SY1, Nat.reduceAdd, Nat.reduceMul, Nat.reduceSub, Nat.reduceLeDiff, Nat.reduceEqDiff, Nat.reduceLT, Nat.reduceBEq, ↓reduceIte, Int.reduceLE, Int.reduceLT, Int.reduceToNat, Int.reduceNeg, reduceCtorEq, Int.reduceEq, SF0, SF1, SF2, DCg0, DCe0, DCa0, DCa1, DDb0, DBc0, DBa0, DHb0, DHb1, DHa0]
  refine br_ndec (fun h3 => ?_) (fun h3 => ?_)
  · simp (disch := omega) only [SX0, SX1, SX2, SX3, SX4, SX5, SX6, SX7, SX8, SU0, SY0, SY1, Nat.reduceAdd, Nat.reduceMul, Nat.reduceSub, Nat.reduceLeDiff, Nat.reduceEqDiff, Nat.reduceLT, Nat.reduceBEq, ↓reduceIte, Int.reduceLE, Int.reduceLT, Int.reduceToNat, Int.reduceNeg, reduceCtorEq, Int.reduceEq, SF0, SF1, SF2, DCg0, DCe0, DCa0, DCa1, DDb0, DBc0, DBa0, DHb0, DHb1, DHa0]
    refine acall_own (cloneInts_c S (by omega) hne) [] [] (by simp only [SX0, SX1, SX2, SX3, SX4, SX5, SX6, SX7, SX8, SU0, SY0, SY1, Nat.reduceAdd, Nat.reduceMul, Nat.reduceSub, Nat.reduceLeDiff, Nat.reduceEqDiff, Nat.reduceLT, Nat.reduceBEq, ↓reduceIte, Int.reduceLE, Int.reduceLT, Int.reduceToNat, Int.reduceNeg, reduceCtorEq, Int.reduceEq, SF0, SF1, SF2, DCg0, DCe0, DCa0, DCa1, DDb0, DBc0, DBa0, DHb0, DHb1, DHa0, SX0]) (by decide) (by decide) (by rfl) (by simp only [SX0, SX1, SX2, SX3, SX4, SX5, SX6, SX7, SX8, SU0, SY0, SY1, Nat.reduceAdd, Nat.reduceMul, Nat.reduceSub, Nat.reduceLeDiff, Nat.reduceEqDiff, Nat.reduceLT, Nat.reduceBEq, ↓reduceIte, Int.reduceLE, Int.reduceLT, Int.reduceToNat, Int.reduceNeg, reduceCtorEq, Int.reduceEq, SF0, SF1, SF2, DCg0, DCe0, DCa0, DCa1, DDb0, DBc0, DBa0, DHb0, DHb1, DHa0, SX0]) ?_
    rintro _ _ ⟨rfl, rfl⟩
    simp (disch := omega) only [SX0, SX1, SX2, SX3, SX4, SX5, SX6, SX7, SX8, SU0, SY0, SY1, Nat.reduceAdd, Nat.reduceMul, Nat.reduceSub, Nat.reduceLeDiff, Nat.reduceEqDiff, Nat.reduceLT, Nat.reduceBEq, ↓reduceIte, Int.reduceLE, Int.reduceLT, Int.reduceToNat, Int.reduceNeg, reduceCtorEq, Int.reduceEq, SF0, SF1, SF2, DCg0, DCe0, DCa0, DCa1, DDb0, DBc0, DBa0, DHb0, DHb1, DHa0]
    exact fin_ib rfl rfl rfl ⟨by rw [if_neg h3, decide_eq_false h3]; rfl, rfl⟩
  · simp (disch := omega) only [SX0, SX1, SX2, SX3, SX4, SX5, SX6, SX7, SX8, SU0, SY0, SY1, Nat.reduceAdd, Nat.reduceMul, Nat.reduceSub, Nat.reduceLeDiff, Nat.reduceEqDiff, Nat.reduceLT, Nat.reduceBEq, ↓reduceIte, Int.reduceLE, Int.reduceLT, Int.reduceToNat, Int.reduceNeg, reduceCtorEq, Int.reduceEq, SF0, SF1, SF2, DCg0, DCe0, DCa0, DCa1, DDb0, DBc0, DBa0, DHb0, DHb1, DHa0]
    exact fin_ib (S := swp S i) rfl rfl (by rw [swp_len]) ⟨by rw [if_pos h3, decide_eq_true h3]; rfl, rfl⟩
end Go.Pc
