/- Two steps exchanged. -/
import Derived.Test.YtkcpcmobmalijaaSb
import Derived.Test.YtkcpcmobmalijaaSc
set_option linter.unusedSimpArgs false
set_option linter.unusedVariables false
namespace Go.Pc
open Go Go.Proofs

/-- One after the other. -/
def chain (ks : List (Int × Int)) : List Int → List Int → Prop
  | _, [] => True
  | D, n :: l => canCut ks D n ∧ chain ks (D ++ [n]) l
theorem chain_app {ks : List (Int × Int)} : ∀ {P l D : List Int}, chain ks D (P ++ l) ↔ chain ks D P ∧ chain ks (D ++ P) l
  | [], l, D => by simp [chain]
  | n :: P, l, D => by simp only [List.cons_append, chain, chain_app (P := P), List.append_assoc, List.nil_append, and_assoc]
theorem canCut_congr {ks : List (Int × Int)} {D D' : List Int} (h : ∀ x, x ∈ D ↔ x ∈ D') {n : Int} (hc : canCut ks D n) : canCut ks D' n := by
  obtain ⟨q, hq, e, h1, h2⟩ := hc
  exact ⟨q, hq, e, fun hm => h1 ((h _).2 hm), fun h0 => (h _).1 (h2 h0)⟩
theorem chain_congr {ks : List (Int × Int)} : ∀ {l D D' : List Int}, (∀ x, x ∈ D ↔ x ∈ D') → chain ks D l → chain ks D' l
  | [], _, _, _, _ => trivial
  | n :: l, D, D', h, hc => ⟨canCut_congr h hc.1, chain_congr (fun x => by simp [h x]) hc.2⟩
theorem chain_iff {ks : List (Int × Int)} : ∀ {l D : List Int}, chain ks D l ↔ ∀ (i : Nat) n, l[i]? = some n → canCut ks (D ++ l.take i) n
  | [], D => by simp [chain]
  | m :: l, D => by
    rw [chain, chain_iff (l := l)]
    refine ⟨fun ⟨h1, h2⟩ i n hn => ?_, fun h => ⟨by simpa using h 0 m rfl, fun i n hn => by simpa using h (i + 1) n (by simpa using hn)⟩⟩
    cases i with
    | zero => simp at hn; subst hn; simpa using h1
    | succ i => simpa using h2 i n (by simpa using hn)
theorem begins_chain {ks : List (Int × Int)} {S : List Int} : begins ks S ↔ chain ks [] S := by
  rw [begins_iff, chain_iff]; simp

/-- Two steps exchanged. -/
def swp (S : List Int) (i : Nat) : List Int := (S.set i ((S[i + 1]?).getD 0)).set (i + 1) ((S[i]?).getD 0)
theorem swp_len (S : List Int) (i : Nat) : (swp S i).length = S.length := by simp [swp]
theorem swp_split {S : List Int} {i : Nat} (h : i + 1 < S.length) : ∃ P a b Q, S = P ++ a :: b :: Q ∧ P.length = i ∧ S[i]? = some a ∧ S[i + 1]? = some b ∧ swp S i = P ++ b :: a :: Q := by
  refine ⟨S.take i, S[i], S[i + 1], S.drop (i + 2), ?_, by simp; omega, List.getElem?_eq_getElem _, List.getElem?_eq_getElem _, ?_⟩
  · rw [← List.drop_eq_getElem_cons (by omega), ← List.drop_eq_getElem_cons (by omega), List.take_append_drop]
  · unfold swp
    rw [List.getElem?_eq_getElem (by omega), List.getElem?_eq_getElem (by omega)]
    simp only [Option.getD_some]
    refine List.ext_getElem? fun j => ?_
    by_cases h1 : j < i
    · rw [List.getElem?_set_ne (by omega), List.getElem?_set_ne (by omega), List.getElem?_append_left (by simp; omega), List.getElem?_take, if_pos h1]
    · rw [List.getElem?_append_right (by simp; omega)]
      have e : (S.take i).length = i := by simp; omega
      rw [e]
      obtain ⟨m, rfl⟩ : ∃ m, j = i + m := ⟨j - i, by omega⟩
      rw [Nat.add_sub_cancel_left]
      match m with
      | 0 =>
        show ((S.set i S[i + 1]).set (i + 1) S[i])[i]? = some S[i + 1]
        rw [List.getElem?_set_ne (by omega), List.getElem?_set_self (by omega)]
      | 1 => rw [List.getElem?_set_self (by simp; omega)]; rfl
      | m + 2 => rw [List.getElem?_set_ne (by omega), List.getElem?_set_ne (by omega)]; simp [Nat.add_assoc, Nat.add_comm 2 m]
theorem swp_swp {S : List Int} {i : Nat} (h : i + 1 < S.length) : swp (swp S i) i = S := by
  obtain ⟨P, a, b, Q, h1, h2, h3, h4, h5⟩ := swp_split h
  obtain ⟨P', a', b', Q', g1, g2, g3, g4, g5⟩ := swp_split (S := swp S i) (i := i) (by rw [swp_len]; exact h)
  rw [g5, h1]
  rw [h5] at g1
  obtain ⟨e1, e2⟩ := List.append_inj g1 (by omega)
  simp at e2
  obtain ⟨rfl, rfl, rfl⟩ := e2
  rw [e1]

/-- It is possible exactly if the first one is not above the second one. -/
theorem Plan.swp_valid {p : Plan} {S : List Int} (hv : p.vsteps S) {i : Nat} {a b : Int} (ha : S[i]? = some a) (hb : S[i + 1]? = some b) : p.vsteps (swp S i) ↔ p.above b ≠ a := by
  have hi : i + 1 < S.length := (List.getElem?_eq_some_iff.1 hb).1
  obtain ⟨P, a', b', Q, h1, h2, h3, h4, h5⟩ := swp_split hi
  rw [ha] at h3; rw [hb] at h4
  cases h3; cases h4
  obtain ⟨hp, hl, hbg⟩ := hv
  obtain ⟨f1, f2⟩ := Plan.knots_facts hp.1
  rw [begins_chain, h1, chain_app] at hbg
  obtain ⟨c1, c2, c3, c4⟩ := hbg
  simp only [List.nil_append] at c2 c3 c4
  obtain ⟨q, hq, e, n1, n2⟩ := c3
  have hab : p.above b = q.2 := by
    unfold Plan.above
    rw [if_pos hp]
    cases hf : (p.knots 0 (-1)).find? fun q => decide (q.1 = b) with
    | none =>
      rw [List.find?_eq_none] at hf
      exact absurd e (by simpa using hf q hq)
    | some r =>
      have h6 := List.find?_some hf
      have h7 := fst_inj f1 (List.mem_of_find?_eq_some hf) hq (by rw [e]; simpa using h6)
      rw [h7]
  rw [hab]
  have hiff : p.vsteps (swp S i) ↔ chain (p.knots 0 (-1)) [] (P ++ b :: a :: Q) := by
    unfold Plan.vsteps
    rw [swp_len, begins_chain, h5]
    exact ⟨fun h => h.2.2, fun h => ⟨hp, hl, h⟩⟩
  rw [hiff, chain_app]
  simp only [List.nil_append, chain]
  refine ⟨fun ⟨_, d1, _⟩ hqa => ?_, fun hne => ⟨c1, ⟨q, hq, e, fun hm => n1 (by simp [hm]), fun h0 => ?_⟩, ?_, ?_⟩⟩
  · obtain ⟨r, hr, e', _, d2⟩ := d1
    have := fst_inj f1 hr hq (e'.trans e.symm)
    subst this
    obtain ⟨ra, hra, ea, na, _⟩ := c2
    have h0 : 0 ≤ r.2 := by rw [hqa, ← ea]; exact (f2 ra hra).2.1
    have := d2 h0
    rw [hqa] at this
    exact na this
  · have := n2 h0
    simp at this
    rcases this with h | h
    · exact h
    · exact absurd h hne
  · obtain ⟨r, hr, e', m1, m2⟩ := c2
    refine ⟨r, hr, e', fun hm => ?_, fun h0 => by simp [m2 h0]⟩
    simp at hm
    rcases hm with h | h
    · exact m1 h
    · exact n1 (by simp [h])
  · exact chain_congr (fun x => by
      simp only [List.mem_append, List.mem_singleton]
      constructor <;> (rintro ((h | h) | h) <;> simp [h])) c4

theorem ints_len2 (l : List Int) : (ints l).length = l.length := by simp [ints]

theorem e_copyInts : Enters Try.prog 155 := enters_of Try.func155 (by kernel_rfl) (by kernel_rfl)
theorem copyInts_c (l : List Int) (hl : l.length ≤ 100000) : ACalls Try.prog 155 [.sl (ints l)] [] [] (fun r L => r = .os 0 1 0 l.length ∧ L = [.vec 1 (ints l)]) := by
  refine acalls_tm T_tt Try.func155 rfl e_copyInts 5 rfl [_, .any, .any, .any, .any, .any] rfl (rv := [.tmp 2]) rfl (sx_sound (bl := [3]) T_tt _ _ _ ?_)
  simp (disch := omega) only [SX0, SX1, SX2, SX3, SX4, SX5, SX6, SX7, SX8, SU0, SY0, SY1, Nat.reduceAdd, Nat.reduceMul, Nat.reduceSub, Nat.reduceLeDiff, Nat.reduceEqDiff, Nat.reduceLT, Nat.reduceBEq, ↓reduceIte, Int.reduceLE, Int.reduceLT, Int.reduceToNat, Int.reduceNeg, reduceCtorEq, Int.reduceEq, SF0, SF1, SF2, DCg0, DCe0, DCe1, DCe2, DDb0, DBc0, DBc1, DHb0, DHb1, DHa0]
  refine req intRows ?_
  simp (disch := omega) only [SX0, SX1, SX2, SX3, SX4, SX5, SX6, SX7, SX8, SU0, SY0, SY1, Nat.reduceAdd, Nat.reduceMul, Nat.reduceSub, Nat.reduceLeDiff, Nat.reduceEqDiff, Nat.reduceLT, Nat.reduceBEq, ↓reduceIte, Int.reduceLE, Int.reduceLT, Int.reduceToNat, Int.reduceNeg, reduceCtorEq, Int.reduceEq, SF0, SF1, SF2, DCg0, DCe0, DCe1, DCe2, DDb0, DBc0, DBc1, DHb0, DHb1, DHa0]
  refine req (by omega) ?_
  simp (disch := omega) only [SX0, SX1, SX2, SX3, SX4, SX5, SX6, SX7, SX8, SU0, SY0, SY1, Nat.reduceAdd, Nat.reduceMul, Nat.reduceSub, Nat.reduceLeDiff, Nat.reduceEqDiff, Nat.reduceLT, Nat.reduceBEq, ↓reduceIte, Int.reduceLE, Int.reduceLT, Int.reduceToNat, Int.reduceNeg, reduceCtorEq, Int.reduceEq, SF0, SF1, SF2, DCg0, DCe0, DCe1, DCe2, DDb0, DBc0, DBc1, DHb0, DHb1, DHa0]
  exact fin_ks [0] (.os 0 1 0 l.length) [.vec 1 (ints l)] ⟨rfl, rfl⟩ (by simp [AV.ren, nameK]) (by simp [keepL, nameK, OB.ren, ints]) (by simp) (by simp) (by simp)

/-- What SwapSteps tells. -/
def swapOk (p : Plan) (S : List Int) (a : Int) : Prop := p.vsteps S ∧ 0 ≤ a ∧ a + 1 < S.length
instance (p : Plan) (S : List Int) (a : Int) : Decidable (swapOk p S a) := inferInstanceAs (Decidable (_ ∧ _))
def swapPos (p : Plan) (S : List Int) (a : Int) : List Int := if swapOk p S a then (if p.vsteps (swp S a.toNat) then swp S a.toNat else S) else []
def swapB (p : Plan) (S : List Int) (a : Int) : Bool := decide (swapOk p S a ∧ p.vsteps (swp S a.toNat))

/-- Steps in an own row are read. -/
theorem steps_own {f : FuncId} {p : Plan} {S : List Int} {v : Value} (h : ACalls Try.prog f [.agg p.cs, .sl (ints S)] [] [] (fun r L => r = .val v ∧ L = [])) {fx : List Nat} {r n : Nat} {es : List (List AV)} {s : AS} (hL : s.L[r]? = some (.vec 1 es)) (he : es = ints S) (hn : n = S.length) {K : AV → AS → Prop} (hK : K (.val v) s) :
    ACall Try.prog fx (.fn f []) [.agg p.cs, .os r 1 0 n] s K := by
  subst he
  subst hn
  refine acall_borrow hL (v := v) ?_ hK
  simp only [List.map_cons, List.map_nil, AV.frz, freeL_frz _ _ _ p.free, if_true, Nat.zero_add, List.drop_zero, true_and, ints_len2, Nat.le_refl]
  rw [List.take_of_length_le (by simp [ints])]
  exact qcall_one h (by simp [freeL, AV.free, Plan.free])
theorem fin_ib {R : AV → List OB → Prop} {s : AS} {S : List Int} {b : Bool} {r n : Nat} {es : List (List AV)} (hL : s.L[r]? = some (.vec 1 es)) (he : es = ints S) (hn : n = S.length) (hR : R (.tup [.sl (ints S), .val (.bool b)]) []) : Fin [] 0 R s (.tup [.os r 1 0 n, .val (.bool b)]) := by
  subst he
  subst hn
  refine fin_frz hL (by simp) ?_
  simp only [AV.frz, frzL, if_true, Nat.zero_add, true_and, ints_len2, Nat.le_refl, List.drop_zero]
  rw [List.take_of_length_le (by simp [ints])]
  exact fin_free rfl hR
theorem fin_nb {R : AV → List OB → Prop} {s : AS} {b : Bool} (hR : R (.tup [.sl [], .val (.bool b)]) []) : Fin [] 0 R s (.tup [.val (.slice none 0 0), .val (.bool b)]) := by
  refine fin_nrm ?_
  simp only [AV.nrm, nrmL]
  exact fin_free rfl hR

end Go.Pc
